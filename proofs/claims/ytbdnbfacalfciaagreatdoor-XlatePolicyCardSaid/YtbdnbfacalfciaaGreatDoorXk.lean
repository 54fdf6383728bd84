/- Xk. -/
import Derived.Test.YtbdnbfacalfciaaGreatDoorXj
namespace Go.Proofs.YtbdnbfacalfciaaGreatDoor
set_option maxRecDepth 100000
set_option maxHeartbeats 16000000
open Go.RowKit
theorem eg_ins2e (E:EgA) (eg:Eg) (cd:Cd) (s:St) (hcd:CdOk cd s) (hok:okSt s) (ek:Nat) (he:cd.e=some ek) (w0 w1:World) (u:Value) (hu:CodeAt w0 w1 cd u) (v:Value) (i:Nat) (hi:i<=1000000) (w:World) (hS:CodeS w0 w1 w E.own) (h:EgAt w E true eg) (hnl:eg.lines.length<=1000000) (hs:StS w E v s.args) :
  Calls Tryz.prog 206 #[.pointer (some ⟨E.g,0,none⟩),u,stV s v,.int .i64 i] w (EgR E true w (instrA true cd s i eg)):=by
 have hek:=hcd.2.1 ek he
 have hae:argE s cd.e=s.args[ek].e:=by rw [he];unfold argE;simp only;rw [List.getD_eq_getElem?_getD,List.getElem?_eq_getElem hek];rfl
 have hle:=evA_le h s.args[ek].e (hok.2 _ (List.getElem_mem hek)).2
 have HV:Hid (instrA true cd s i eg=if (evA eg s.args[ek].e).2≠0 then (eg,(evA eg s.args[ek].e).2) else if (cd.bytes eg.pl (evA eg s.args[ek].e).1 ([],false)).1.2.2≠0 then (eg,(cd.bytes eg.pl (evA eg s.args[ek].e).1 ([],false)).1.2.2) else layA true eg ⟨i+1,0,1,(cd.bytes eg.pl (evA eg s.args[ek].e).1 ([],false)).1.1,(cd.bytes eg.pl (evA eg s.args[ek].e).1 ([],false)).1.2.1,s.args[ek].e⟩ cd.size):=LH (by
  have hne:¬ cd.e=none:=by rw [he];simp
  unfold instrA
  rw [if_neg (by decide),hae]
  simp only [if_neg hne,(hcd.2.2 eg.pl (evA eg s.args[ek].e).1 eg.dl).1])
 obtain ⟨A,c,rfl,_⟩:=hs.form
 obtain ⟨g,o,sv,rfl,hgl,c0,c1,c2,c3,c4,c5,c6,c7,hsub⟩:=hs.get ek hek
 have HVA:=LH (fun W (hW:Below w.heap.size w W)=>evalue_any E true eg s.args[ek].e sv W (h.bel hW) (hok.2 _ (List.getElem_mem hek)).2 ((hsub.more (fun k hk=>hk.1)).at hW hW.size))
 have HSU:=LH hsub
 obtain ⟨vA,vc,rfl,_,_⟩:=hsub.form
 have H:=LH h
 have hg:=h.lt
 have hpl:=h.place
 have k19:=h.cell.2.2.2.1
 obtain ⟨fK,caps,rfl,heg,hcall⟩:=hu
 have HB:=LH (fun W (hW:Below w.heap.size w W)=>hcall W eg.pl (evA eg s.args[ek].e).1 (fun k h1 h2=>((hS.bel hW).2 k h1 h2).1) (hS.bel hW).1 hle)
 have hlen:=(hcd.2.2 eg.pl (evA eg s.args[ek].e).1 ([],false)).2
 have hsz:=hcd.1
 generalize instrA true cd s i eg=res at *
 generalize (cd.bytes eg.pl (evA eg s.args[ek].e).1 ([],false)).1=bt at *
 obtain ⟨bb,bv',bk⟩:=bt
 rw [he]
 have i1:(ek:Int)<(s.args.length:Int):=by omega
 unfold exV at HVA
 generalize s.args[ek]=x at *
 generalize evA eg x.e=ev at *
 obtain ⟨ev1,ev2⟩:=ev
 have hes:(Value.int .i64 (eI (some ek)))=.int .i64 (ek:Int):=rfl
 rw [hes]
 generalize cd.size=sz at *
 obtain ⟨lab,colon,op,args⟩:=s
 unfold stV
 simp only at *
 have e3:IntKind.i64.wrap ((i:Int)+1)=(i:Int)+1:=by rw [IntWalk.i64_in _ (by omega)]
 have B30:=LH ((((Below.refl w.heap.size w).alloc (Nat.le_refl _) (.cells #[.int .i64 sz,.int .i64 (ek:Int),.func (.func fK) #[] caps] 288)).alloc (by simp) (.cells #[.string ⟨lab.toArray⟩,.bool colon,.string ⟨op.toArray⟩,.slice (some ⟨g,o,none⟩) args.length c] 63)).alloc (by simp;omega) (.cells #[.int .i64 ((i:Int)+1),.int .u16 0,.int .i64 1,.slice none 0 0,.int .u16 0,.string ⟨x.e.op.toArray⟩,.int .u16 x.e.n,.string ⟨x.e.name.toArray⟩,.slice vA x.e.sub.length vc] 140))
 have k0:=h.cell.1
 clear h hs hS hcall hcd he hae hsub c0 c1 c2 c3 hok hes
 have O00:=LH (show (((w.alloc (.cells #[.int .i64 sz,.int .i64 (ek:Int),.func (.func fK) #[] caps] 288)).alloc (.cells #[.string ⟨lab.toArray⟩,.bool colon,.string ⟨op.toArray⟩,.slice (some ⟨g,o,none⟩) args.length c] 63)).alloc (.cells #[.int .i64 ((i:Int)+1),.int .u16 0,.int .i64 1,.slice none 0 0,.int .u16 0,.string ⟨x.e.op.toArray⟩,.int .u16 x.e.n,.string ⟨x.e.name.toArray⟩,.slice vA x.e.sub.length vc] 140)).heap[w.heap.size]? = some (.cells #[.int .i64 sz,.int .i64 (ek:Int),.func (.func fK) #[] caps] 288 (0,0)) by rw [hao _ _ _ (by simp;omega),hao _ _ _ (by simp)];exact heap_alloc_new w _)
 have O20:=LH (heap_alloc_new ((w.alloc (.cells #[.int .i64 sz,.int .i64 (ek:Int),.func (.func fK) #[] caps] 288)).alloc (.cells #[.string ⟨lab.toArray⟩,.bool colon,.string ⟨op.toArray⟩,.slice (some ⟨g,o,none⟩) args.length c] 63)) (.cells #[.int .i64 ((i:Int)+1),.int .u16 0,.int .i64 1,.slice none 0 0,.int .u16 0,.string ⟨x.e.op.toArray⟩,.int .u16 x.e.n,.string ⟨x.e.name.toArray⟩,.slice vA x.e.sub.length vc] 140))
 rw [show ((w.alloc (.cells #[.int .i64 sz,.int .i64 (ek:Int),.func (.func fK) #[] caps] 288)).alloc (.cells #[.string ⟨lab.toArray⟩,.bool colon,.string ⟨op.toArray⟩,.slice (some ⟨g,o,none⟩) args.length c] 63)).heap.size=w.heap.size+1+1 by simp] at O20
 have n19:=fun o1 o2 o3=>new_keep (o:=o3) (new_keep (o:=o2) (new_keep (o:=o1) k19))
 have n4:=fun o1 o2 o3=>new_keep (o:=o3) (new_keep (o:=o2) (new_keep (o:=o1) c4))
 have n5:=fun o1 o2 o3=>new_keep (o:=o3) (new_keep (o:=o2) (new_keep (o:=o1) c5))
 have n6:=fun o1 o2 o3=>new_keep (o:=o3) (new_keep (o:=o2) (new_keep (o:=o1) c6))
 have n7:=fun o1 o2 o3=>new_keep (o:=o3) (new_keep (o:=o2) (new_keep (o:=o1) c7))
 clear k19 c4 c5 c6 c7
 have hz3:(((w.alloc (.cells #[.int .i64 sz,.int .i64 (ek:Int),.func (.func fK) #[] caps] 288)).alloc (.cells #[.string ⟨lab.toArray⟩,.bool colon,.string ⟨op.toArray⟩,.slice (some ⟨g,o,none⟩) args.length c] 63)).alloc (.cells #[.int .i64 ((i:Int)+1),.int .u16 0,.int .i64 1,.slice none 0 0,.int .u16 0,.string ⟨x.e.op.toArray⟩,.int .u16 x.e.n,.string ⟨x.e.name.toArray⟩,.slice vA x.e.sub.length vc] 140)).heap.size=w.heap.size+1+1+1:=by simp
 go_enter Tryz.func206, Tryz.ntmps206
 go_wp2_with fail
 refine (HVA.out _ B30.out).mono ?_
 rintro e w3 ⟨rfl,hb3⟩
 have B3:=LH (bthen B30.out hb3)
 have O0:=LH ((hb3.block w.heap.size (by omega)).trans O00.out)
 have O2:=LH ((hb3.block (w.heap.size+1+1) (by omega)).trans O20.out)
 clear hb3 hz3 O00 O20 B30 HVA n19 n4 n5 n6 n7
 have hzz:w.heap.size+1+1<w3.heap.size:=loh O2.out
 have q0:=(B3.out.cell (p:=⟨E.g,0,none⟩) hg).trans k0
 have u2:=coh (i:=2) O0.out
 simp at u2
 clear k0
 by_cases hk0:ev2=0
 rotate_left
 ·have e5:((ev2:Int) == 0)=false:=by rw [beq_eq_false_iff_ne];omega
  have e6:((ev2:Int) != 0)=true:=by rw [bne_iff_ne];omega
  have HX:=LH (HV.out.trans (if_pos hk0))
  have hkk:=LH hk0
  clear HV hk0 u2
  go_wp2_with fail
  go_ret
  rw [HX.out]
  exact EgR.bad ev2 hkk.out (Turn.of_below B3.out)
 subst hk0
 have HV1:=LH (HV.out.trans (if_neg (by simp)))
 clear HV
 go_wp2_with fail
 go_cut [11,39,40,41,42,43,44,45,46,47,48,49,50,51,52,53] (fun k11 _ _ _ _ _ _ _ _ _ _ _ _ _ _ _ wx=>∃ bA bc,k11=.int .i64 bk/\Below w.heap.size w wx/\BytS wx (fun g=>w.heap.size<=g/\g<wx.heap.size) (.slice bA bb.length bc) bb /\
  wx.heap[w.heap.size]? = some (.cells #[.int .i64 sz,.int .i64 (ek:Int),.func (.func fK) #[] caps] 288 (0,0))/\wx.heap[w.heap.size+1+1]? = some (.cells #[.int .i64 ((i:Int)+1),.int .u16 0,.int .i64 1,.slice bA bb.length bc,.int .u16 bv',.string ⟨x.e.op.toArray⟩,.int .u16 x.e.n,.string ⟨x.e.name.toArray⟩,.slice vA x.e.sub.length vc] 140 (0,0)))
 case first=>
  go_region_with (first | (refine (HB.out _ B3.out.drew).mono ?_;rintro e w4 ⟨yv,rfl,hrd,hnew,hb4⟩;obtain ⟨yA,yc,rfl,_⟩:=hrd.form;have O4:=(hb4.block (w.heap.size+1+1) hzz).trans O2.out;have y3:=coh (i:=3) O4;have y4:=coh (i:=4) O4;have f3:=foh (i:=3) O4;have f4:=foh (i:=4) O4;simp at y3 y4 f3 f4))
  all_goals (
   have HBY:=LH (byt_of hrd hnew)
   have B4:=LH (bthen B3.out.drew hb4)
   have O5:=LH (heap_set (i:=4) (.int .u16 bv') (heap_set (i:=3) (.slice yA bb.length yc) O4))
   have O6:=LH ((hb4.block w.heap.size (by show w.heap.size<w3.heap.size;omega)).trans O0.out)
   have hz4:w3.heap.size<=w4.heap.size:=hb4.size
   have HZ4:=LH hz4
   clear hb4 hrd hnew O4 hz4
   go_simp
   go_wp2_with fail
   go_meet
   refine ⟨yA,yc,rfl,?_,?_,?_,?_⟩
   ·exact ((B4.out.setCell (by show w.heap.size<=w.heap.size+1+1;omega) _).setCell (by show w.heap.size<=w.heap.size+1+1;omega) _)
   ·have h4:=HZ4.out
    exact HBY.out.keep (fun p hp=>(World.cell?_of_block (set_block (by have:=hp.1;have h5:w3.heap.size<=p.block:=this;omega))).trans (World.cell?_of_block (set_block (by have:=hp.1;have h5:w3.heap.size<=p.block:=this;omega)))) (fun g hg=>⟨by have:w3.heap.size<=g:=hg.1;omega,by simpa using hg.2⟩)
   ·exact ((set_block (by omega)).trans (set_block (by omega))).trans O6.out
   ·exact O5.out)
 case rest=>
  obtain ⟨bA,bc,rfl,hbx,hbs,hO,hL⟩:=hcut
  have BX:=LH hbx
  have HBS:=LH hbs
  have x0:=coh (i:=0) hO
  have y0:=coh (i:=0) hL
  have y1:=coh (i:=1) hL
  have y2:=coh (i:=2) hL
  have y3:=coh (i:=3) hL
  have y4:=coh (i:=4) hL
  have y5:=coh (i:=5) hL
  have y6:=coh (i:=6) hL
  have y7:=coh (i:=7) hL
  have y8:=coh (i:=8) hL
  simp at x0 y0 y1 y2 y3 y4 y5 y6 y7 y8
  clear hbx hbs hO hL u2 q0
  have HLIN:Hid (LinAt wc E.own E.g (.slice bA bb.length bc) (.slice vA x.e.sub.length vc) ⟨i+1,0,1,bb,bv',x.e⟩):=LH ⟨HBS.out.keep (fun _ _=>rfl) (fun k hk=>⟨⟨hk.2,fun hm=>by have h1:=H.out.owned k hm;have h2:=hk.1;omega⟩,Nat.lt_of_lt_of_le H.out.lt hk.1⟩),HSU.out.keep (fun p hp=>BX.out.cell hp.1) (fun k hk=>⟨Nat.lt_of_lt_of_le hk.1 BX.out.size,hk.2⟩)⟩
  have HLAY:Hid (Calls Tryz.prog 237 #[.pointer (some ⟨E.g,0,none⟩),.agg #[.int .i64 ((i:Int)+1),.int .u16 0,.int .i64 1,.slice bA bb.length bc,.int .u16 bv',.string ⟨x.e.op.toArray⟩,.int .u16 x.e.n,.string ⟨x.e.name.toArray⟩,.slice vA x.e.sub.length vc],.int .i64 sz] wc (EgR E true wc (layA true eg ⟨i+1,0,1,bb,bv',x.e⟩ sz))):=
   LH (eg_lay E true eg ⟨i+1,0,1,bb,bv',x.e⟩ (.slice bA bb.length bc) (.slice vA x.e.sub.length vc) sz (by omega) (by show bb.length<=1000000;omega) hnl wc (H.out.bel BX.out) HLIN.out)
  clear HLIN HSU HBS
  by_cases hk:bk=0
  ·subst hk
   have HX:=LH (HV1.out.trans (if_neg (by simp)))
   clear HV1
   generalize layA true eg ⟨i+1,0,1,bb,bv',x.e⟩ sz=lr at *
   go_wp2_with fail
   refine HLAY.out.mono ?_
   intro e w5 hr
   have HR:=LH (hr.bel BX.out)
   obtain rfl:=hr.1
   clear hr HLAY
   go_wp2_with fail
   go_ret
   rw [HX.out]
   exact HR.out
  ·have e5:((bk:Int) != 0)=true:=by rw [bne_iff_ne];omega
   have HX:=LH (HV1.out.trans (if_pos hk))
   have hkk:=LH hk
   clear HV1 hk HLAY
   go_wp2_with fail
   go_ret
   rw [HX.out]
   exact EgR.bad bk hkk.out (Turn.of_below BX.out)
theorem lastA_lt (l:List Ar):∀ (i:Nat) (e:Option Nat) (k:Nat),lastA l i e=some k->e=some k∨k<i+l.length:=by
 induction l with
 | nil=>intro i e k h;exact .inl h
 | cons a r ih=>
  intro i e k h
  rcases ih _ _ _ h with h1 | h1
  ·split at h1
   ·injection h1 with h1;right;simp;omega
   ·exact .inl h1
  ·right;simp;omega
theorem bytes80_len (op n:Nat):(bytes80 op n).1.length<=3:=by
 unfold bytes80
 split
 ·simp
 ·split
  ·simp
  ·rw [List.length_take];simp [lohi];omega
theorem opA80_len (op size v:Nat):(opA80 op size v).1.length<=3:=by
 unfold opA80
 split
 ·split
  ·simp
  ·exact bytes80_len _ _
 ·exact bytes80_len _ _
theorem fd80_ok {t:Dst} {s:St} {i:Nat} {c:Cd} (h:fd80 t s i=some c):CdOk c s:=by
 have htry:∀ size,size<=2->∀ c,try80 s size=some c->CdOk c s:=by
  intro size hsz c h
  unfold try80 at h
  split at h
  ·next op hf=>
   split at h
   ·injection h with h
    subst h
    refine ⟨by show size+1<=1000;omega,fun k hk=>?_,fun pl v t=>⟨rfl,?_⟩⟩
    ·rcases lastA_lt s.args 0 none k hk with h1 | h1
     ·cases h1
     ·omega
    ·show (opA80 op size v).1.length<=1000
     have:=opA80_len op size v
     omega
   ·cases h
  ·cases h
 unfold fd80 at h
 split at h
 ·split at h
  ·next h1=>
   injection h with h
   subst h
   refine ⟨by show 1<=1000;omega,fun k hk=>?_,fun pl v t=>⟨rfl,?_⟩⟩
   ·injection hk with hk
    omega
   ·show (rst80A v).1.length<=1000
    unfold rst80A
    split <;> simp
  ·cases h
 ·split at h
  ·next c0 h0=>injection h with h;subst h;exact htry 0 (by omega) _ h0
  ·split at h
   ·next c0 h0=>injection h with h;subst h;exact htry 1 (by omega) _ h0
   ·exact htry 2 (by omega) _ h
theorem find_any (s:St) (v:Value) (i:Int) (w:World) (hs:ArAt w (· < w.heap.size) v s.args) (hl:s.args.length<=1000) :
  Calls Tryz.prog 299 #[.agg #[],stV s v,.int .i64 i] w (FindR (fd80 ([],false) s 0) w):=by
 by_cases h:s.op=sRST
 ·exact tongue_rst s v i w hs h
 ·exact tongue_any s v i w hs hl h
structure FdOk (F:Fd):Prop where
 st:∀ t s i,F t s i=F ([],false) s 0
 ok:∀ {s c},F ([],false) s 0=some c->CdOk c s
theorem fd80_fine:FdOk fd80:=⟨fun _ _ _=>rfl,fd80_ok⟩
def tonV:Bool->Nat->Value
 | false,_=>.iface 99 (.agg #[])
 | true,b=>.iface 137 (.pointer (some ⟨b,0,none⟩))
def tonF:Bool->FuncId
 | false=>299
 | true=>307
def tonA:Bool->Nat->Value
 | false,_=>.agg #[]
 | true,b=>.pointer (some ⟨b,0,none⟩)
def FindS (z:Bool) (b:Nat) (F:Fd) (s:St) (O:List Nat) (w:World):Prop:=∀ (O':List Nat) (W:World) (v:Value) (i:Int),Turn O w O' W->ArAt W (· < W.heap.size) v s.args->Calls Tryz.prog (tonF z) #[tonA z b,stV s v,.int .i64 i] W (FindR (F ([],false) s 0) W)
theorem FindS.turn {z:Bool} {b:Nat} {F:Fd} {s:St} {O O1:List Nat} {w w1:World} (h:FindS z b F s O w) (ht:Turn O w O1 w1):FindS z b F s O1 w1:=fun O' W v i h1=>h O' W v i (ht.trans h1)
theorem StS.turn {w w':World} {E E':EgA} {v:Value} {args:List Ar} (h:StS w E v args) (ht:Turn E.own w E'.own w'):StS w' E' v args:=by
 refine ArAt.keep h (fun p hp=>World.cell?_of_block (ht.2.2.1 p.block hp.1 hp.2)) (fun k hk=>⟨Nat.lt_of_lt_of_le hk.1 ht.1,fun hm=>?_⟩)
 rcases ht.2.1 k hm with h1 | h1
 ·exact hk.2 h1
 ·have:=hk.1;omega
theorem CodeS.turn {w0 w1 w w':World} {O O':List Nat} (h:CodeS w0 w1 w O) (ht:Turn O w O' w'):CodeS w0 w1 w' O':=by
 refine ⟨Nat.le_trans h.1 ht.1,fun k h1 h2=>?_⟩
 obtain ⟨h3,h4⟩:=h.2 k h1 h2
 have hk:k<w.heap.size:=Nat.lt_of_lt_of_le h2 h.1
 refine ⟨(ht.2.2.1 k hk h4).trans h3,fun hm=>?_⟩
 rcases ht.2.1 k hm with h5 | h5
 ·exact h4 h5
 ·omega
theorem EgR.turn {E E1:EgA} {sec:Bool} {w w1 w2:World} {r:Eg × Nat} {e:Ending} (h:EgR E1 sec w1 r e w2) (hl:E.like E1) (ht:Turn E.own w E1.own w1):EgR E sec w r e w2:=by
 obtain ⟨h1,E',h2,h3,h4⟩:=h
 exact ⟨h1,E',hl.trans h2,ht.trans h3,h4⟩
theorem eg_ins (E:EgA) (sec:Bool) (eg:Eg) (cd:Cd) (s:St) (hcd:CdOk cd s) (hok:okSt s) (w0 w1:World) (u:Value) (hu:CodeAt w0 w1 cd u) (v:Value) (i:Nat) (hi:i<=1000000) (w:World) (hS:CodeS w0 w1 w E.own) (h:EgAt w E sec eg) (hnl:eg.lines.length<=1000000) (hs:StS w E v s.args) :
  Calls Tryz.prog 206 #[.pointer (some ⟨E.g,0,none⟩),u,stV s v,.int .i64 i] w (EgR E sec w (instrA sec cd s i eg)):=by
 cases sec with
 | false=>
  obtain ⟨K,caps,rfl,_⟩:=hu
  exact eg_ins1 E eg cd hcd.1 _ ⟨.func K,caps,rfl⟩ s v i hi w h hnl hs.lt
 | true=>
  cases he:cd.e with
  | none=>exact eg_ins2n E eg cd s hcd he w0 w1 u hu v i hi w hS h hnl hs
  | some k=>exact eg_ins2e E eg cd s hcd hok k he w0 w1 u hu v i hi w hS h hnl hs
theorem eg_dir (E:EgA) (sec:Bool) (eg:Eg) (s:St) (p:Nat × Nat) (hp:dirA s.op=some p) (h1:s.op≠sIF) (h2:s.op≠sENDIF) (hld:laidA s p.1 p.2=true) (hok:okSt s) (v:Value) (i:Nat) (hi:i<=1000000) (w:World) (h:EgAt w E sec eg) (hnl:eg.lines.length<=1000000) (hs:StS w E v s.args) :
  Calls Tryz.prog 205 #[.pointer (some ⟨E.g,0,none⟩),stV s v,.int .i64 i] w (EgR E sec w (directA sec s i eg)):=by
 obtain ⟨lab,colon,op,args⟩:=s
 simp only at *
 obtain ⟨l1,l2⟩:=laid_len hld
 unfold dirA at hp
 split at hp
 ·next h3=>
  rcases h3 with h3 | rfl
  ·exact absurd h3 h2
  ·exact eg_dir_nil E sec eg lab colon args v i w h hs
 ·split at hp
  ·next h3=>subst h3;exact eg_dir_end E sec eg lab colon args v i w h hok hs
  ·split at hp
   ·next h3=>
    injection hp with hp
    have hn:0<args.length:=by rw [← hp] at l1;exact l1
    rcases h3 with rfl | rfl | rfl | rfl | h3
    ·exact eg_dir_org E sec eg lab colon args v i hi w h hok hn hs
    ·exact eg_dir_equ E sec eg lab colon args v i hi w h hok hn hs
    ·exact eg_dir_set E sec eg lab colon args v i hi w h hok hn hs
    ·exact eg_dir_ds E sec eg lab colon args v i hi w h hok hn hnl hs
    ·exact absurd h3 h1
   ·split at hp
    ·next h3=>
     injection hp with hp
     have hn:args.length<=32:=by rw [← hp] at l2;exact l2
     exact eg_dir_data E sec eg lab colon op h3 args v i hi w h hok hn hnl hs
    ·cases hp
theorem eg_branch (E:EgA) (sec:Bool) (eg:Eg) (s:St) (hop:s.op=sIF∨s.op=sENDIF) (hok:okSt s) (v:Value) (i:Nat) (hi:i<=1000000) (w:World) (h:EgAt w E sec eg) (hs:StS w E v s.args) :
  Calls Tryz.prog 200 #[.pointer (some ⟨E.g,0,none⟩),stV s v,.int .i64 i] w (EgR E sec w (branchA s i eg)):=by
 obtain ⟨lab,colon,op,args⟩:=s
 simp only at *
 rcases hop with rfl | rfl
 ·exact eg_if E sec eg lab colon args v i hi w h hok hs.lt
 ·exact eg_endif E sec eg lab colon args v i hi w h hs.lt
theorem info_int3:(Tryz.prog.info? 3).map (fun i=>(i.zero,i.size,i.bytes))=some (some (.int .i64 0),1,8):=by kernel_rfl
theorem eg_one_b (F:Fd) (E:EgA) (sec:Bool) (eg:Eg) (s:St) (hop:s.op=sIF∨s.op=sENDIF) (hok:okSt s) (v:Value) (i:Nat) (hi:i<=1000000) (w:World) (h:EgAt w E sec eg) (hs:StS w E v s.args) :
  Calls Tryz.prog 152 #[.pointer (some ⟨E.g,0,none⟩),stV s v,.int .i64 i] w (EgR E sec w (oneA F sec s i eg)):=by
 have HV:Hid (oneA F sec s i eg=branchA s i eg):=LH (by unfold oneA;rw [if_pos hop])
 have HBR:=LH (fun W (hW:Below w.heap.size w W)=>eg_branch E sec eg s hop hok v i hi W (h.bel hW) (StS.turn hs (Turn.of_below hW)))
 obtain ⟨A,c,rfl,_⟩:=hs.form
 obtain ⟨lab,colon,op,args⟩:=s
 unfold stV at *
 simp only at *
 have B1:=LH ((Below.refl w.heap.size w).alloc (Nat.le_refl _) (.cells #[.string ⟨lab.toArray⟩,.bool colon,.string ⟨op.toArray⟩,.slice A args.length c] 63))
 clear h hs hok
 rcases hop with rfl | rfl
 all_goals (
  go_enter Tryz.func152, Tryz.ntmps152
  go_wp2_with fail
  refine (HBR.out _ B1.out).mono ?_
  intro e w2 hr
  have HR:=LH (hr.bel B1.out)
  obtain rfl:=hr.1
  clear hr HBR
  go_wp2_with fail
  go_ret
  rw [HV.out]
  exact HR.out)
def UsedAt (w:World) (E:EgA) (sec:Bool) (eg:Eg) (sbox:Obj) (E1:EgA) (w5:World):Prop:=EgAt w5 E1 sec eg/\E.like E1/\Turn E.own w E1.own w5/\w5.heap[w.heap.size]? = some sbox/\w.heap.size∉E1.own
theorem labelA_lines (sec:Bool) (g:Eg) (m:List UInt8):(labelA sec g m).1.lines=g.lines/\(labelA sec g m).1.used=g.used:=by
 unfold labelA symA
 split
 ·exact ⟨rfl,rfl⟩
 ·split
  ·exact ⟨rfl,rfl⟩
  ·split <;> exact ⟨rfl,rfl⟩
theorem dirA_le {op:List UInt8} {p:Nat × Nat} (h:dirA op=some p):p.2<=32:=by
 unfold dirA at h
 repeat' split at h
 all_goals (first | (injection h with h;subst h;simp) | cases h)
theorem store_f {uf:Value} (h:uf=.nilFunc ∨ ∃ K c,uf=.func K #[] c) (W:World) (a:Addr) (m:Mode):(store a uf m).run Tryz.prog W=stored Tryz.prog W a uf m:=by
 rcases h with rfl | ⟨K,c,rfl⟩
 ·exact run_store_nilfn
 ·exact run_store_fn K #[] c
theorem EgR.other {E E1:EgA} {sec:Bool} {w w1:World} {eg:Eg} (k:Nat) (h0:k≠0) (hl:E.like E1) (ht:Turn E.own w E1.own w1):EgR E sec w (eg,k) (.returned (.int .i64 (k:Nat))) w1:=⟨rfl,E1,hl,ht,fun h=>absurd h h0⟩
theorem eg_one_c (z:Bool) (b:Nat) (F:Fd) (hF:FdOk F) (E:EgA) (hD:E.D=tonV z b) (sec:Bool) (eg:Eg) (lab:List UInt8) (colon:Bool) (op:List UInt8) (args:List Ar) (h1:op≠sIF) (h2:op≠sENDIF) (hok:okSt ⟨lab,colon,op,args⟩) (v:Value) (i:Nat) (hi:i<=1000000) (w:World) (h:EgAt w E sec eg) (hnl:eg.lines.length<=1000000) (hnu:eg.used.length<=1000000) (hs:StS w E v args) (HFI:FindS z b F ⟨lab,colon,op,args⟩ E.own w) :
  Calls Tryz.prog 152 #[.pointer (some ⟨E.g,0,none⟩),stV ⟨lab,colon,op,args⟩ v,.int .i64 i] w (EgR E sec w (oneA F sec ⟨lab,colon,op,args⟩ i eg)):=by
 have HV:Hid (oneA F sec ⟨lab,colon,op,args⟩ i eg=if countsA eg=false then (eg,0) else if foundA F ⟨lab,colon,op,args⟩ i eg=false then (eg,2) else if colon then
   (if (labelA sec { eg with used:=eg.used++[i+1] } lab).2≠0 then (eg,(labelA sec { eg with used:=eg.used++[i+1] } lab).2) else bodyA F sec ⟨lab,colon,op,args⟩ i (labelA sec { eg with used:=eg.used++[i+1] } lab).1)
   else bodyA F sec ⟨lab,colon,op,args⟩ i { eg with used:=eg.used++[i+1] }):=LH (by unfold oneA;rw [if_neg (fun hh=>hh.elim h1 h2)])
 replace hF:=LH hF
 replace HFI:=LH HFI
 have g1:=str_ne h1
 have g2:=str_ne h2
 obtain ⟨A,c,rfl,_⟩:=hs.form
 have H:=LH h
 have HS:=LH hs
 have hg:=h.lt
 have HCN:=LH (fun W (hW:Below w.heap.size w W)=>eg_counts E sec eg W (h.bel hW))
 have B1:=LH ((Below.refl w.heap.size w).alloc (Nat.le_refl _) (.cells #[.string ⟨lab.toArray⟩,.bool colon,.string ⟨op.toArray⟩,.slice A args.length c] 63))
 have O1:=LH (heap_alloc_new w (.cells #[.string ⟨lab.toArray⟩,.bool colon,.string ⟨op.toArray⟩,.slice A args.length c] 63))
 generalize hres:oneA F sec ⟨lab,colon,op,args⟩ i eg=res at *
 generalize hcn:countsA eg=cn at *
 unfold stV
 simp only at *
 clear h hs hres hcn
 cases cn with
 | false=>
  have HX:=LH (HV.out.trans (if_pos rfl))
  clear HV
  go_enter Tryz.func152, Tryz.ntmps152
  go_wp2_with fail
  refine (HCN.out _ B1.out).mono ?_
  rintro e w2 ⟨rfl,hb2⟩
  go_wp2_with fail
  go_ret
  rw [HX.out]
  exact ⟨rfl,E,E.like_refl,Turn.of_below (bthen B1.out hb2),fun _=>H.out.bel (bthen B1.out hb2)⟩
 | true=>
  have HV1:=LH (HV.out.trans (if_neg (by simp)))
  clear HV
  obtain ⟨uA,uc,huv,_⟩:=own_slice H.out.nums (by omega)
  have k27:=H.out.cell.2.2.2.2.2.2.2.2.2.2.2
  rw [huv] at k27
  have HUV:=LH huv
  have HGU:=LH (fun e:(E.uv).ownBlock=some E.g=>(H.out.apart.2.2.2.2.2.2.2 _ e).1 rfl)
  have e3:IntKind.i64.wrap ((i:Int)+1)=(i:Int)+1:=by rw [IntWalk.i64_in _ (by omega)]
  clear huv
  go_enter Tryz.func152, Tryz.ntmps152
  go_wp2_with fail
  refine (HCN.out _ B1.out).mono ?_
  rintro e w2 ⟨rfl,hb2⟩
  have B2:=LH (bthen B1.out hb2)
  have O2:=LH ((hb2.block w.heap.size (by simp)).trans O1.out)
  have c27:=(B2.out.cell (p:=⟨E.g,27,none⟩) hg).trans k27
  have f27:=(H.out.bel B2.out).free 27
  have HNU:=LH (H.out.bel B2.out).nums
  have hgw:E.g<w2.heap.size:=(H.out.bel B2.out).lt
  rw [HUV.out] at HNU
  clear hb2 k27
  have hone:∀ u∈[Value.int .i64 ((i:Int)+1)],u.oneCell'=true:=by intro u hu;simp at hu;subst hu;rfl
  have HONE:=LH hone
  have HGA:=LH (show (w2.alloc (.cells #[.int .i64 ((i:Int)+1)] 3)).heap[E.g]? = w2.heap[E.g]? from Below.heap_alloc w2 _ E.g hgw)
  have HGU2:Hid (some E.g≠(Value.slice uA eg.used.length uc).ownBlock):=LH (fun e=>HGU.out (by rw [HUV.out];exact e.symm))
  clear hone
  go_upto_region 6 with (at_builtin;refine wpList_append_to _ rfl (.tmp 35) (.tmp 38) 24 rfl 0 3 _ 1 8 Tryz.underlying24 info_int3 rfl (by omega) (HNU.out.alloc _) rfl (rd_new w2 w2.heap.size rfl [.int .i64 ((i:Int)+1)] _) rfl rfl HONE.out (by omega) (by omega) (Nat.zero_le _) ?_;intro v9 w9 hown9 _ hg9 hv9;obtain ⟨vA,vc,rfl,_⟩:=own_slice hown9 (by omega);have G9:=(hg9.block E.g (by simp;omega) HGU2.out).trans HGA.out;have c99:=(World.cell?_of_block (a:=⟨E.g,27,none⟩) G9).trans c27;have f99:=(World.frozen?_of_block (a:=⟨E.g,27,none⟩) G9).trans f27)
  have hU:=H.out.use (u:=i+1) (w2:=w2.alloc (.cells #[.int .i64 ((i:Int)+1)] 3)) (bthen B2.out ((Below.refl _ _).alloc (Nat.le_refl _) _)) hown9 (by rw [HUV.out];exact hg9) (by rw [HUV.out];exact hv9)
  have hbx:w.heap.size<w2.heap.size:=loh O2.out
  have HUS:Hid (UsedAt w E sec { eg with used:=eg.used++[i+1] } (.cells #[.string ⟨lab.toArray⟩,.bool colon,.string ⟨op.toArray⟩,.slice A args.length c] 63) (E.withU (.slice vA (eg.used.length+1) vc)) (w9.setCell ⟨E.g,27,none⟩ (.slice vA (eg.used.length+1) vc))):=
   LH ⟨hU.1,⟨rfl,rfl,rfl,rfl,rfl⟩,hU.2,((set_block (by omega)).trans ((hg9.block w.heap.size (by simp;omega) (fun e=>by have:=H.out.owned w.heap.size (mem_own.2 (.inr (.inr (.inr (.inr (.inr (by rw [HUV.out];exact e.symm)))))));omega)).trans (Below.heap_alloc w2 _ w.heap.size hbx))).trans O2.out,fun hm=>by
    rcases mem_own.1 hm with e | e | e | e | e | e
    ·have h3:=H.out.owned E.g (mem_own.2 (by simp));have e':w.heap.size=E.g:=e;omega
    ·have h3:=H.out.owned E.tb (mem_own.2 (by simp));have e':w.heap.size=E.tb:=e;omega
    ·have h3:=H.out.owned E.mb (mem_own.2 (by simp));have e':w.heap.size=E.mb:=e;omega
    ·have h3:=H.out.owned E.im (mem_own.2 (by simp));have e':w.heap.size=E.im:=e;omega
    ·have h3:=H.out.owned w.heap.size (mem_own.2 (.inr (.inr (.inr (.inr (.inl e))))));omega
    ·have e':(Value.slice vA (eg.used.length+1) vc).ownBlock=some w.heap.size:=e
     rcases hv9 with h4 | h4
     ·have h3:=H.out.owned w.heap.size (mem_own.2 (.inr (.inr (.inr (.inr (.inr (by rw [HUV.out,← h4];exact e')))))));omega
     ·rw [h4] at e';injection e' with e';have:(w2.alloc (.cells #[.int .i64 ((i:Int)+1)] 3)).heap.size=w2.heap.size+1:=by simp
      omega⟩
  generalize w9.setCell ⟨E.g,27,none⟩ (.slice vA (eg.used.length+1) vc)=w5 at *
  generalize E.withU (.slice vA (eg.used.length+1) vc)=E1 at *
  clear hU hown9 hg9 hv9 G9 c99 f99 c27 f27 HONE HGA HGU2 HGU HUV HNU O1 O2 B1 B2 hbx hgw
  obtain ⟨he5,hlike,ht5,ho5,hno5⟩:=HUS.out
  have HNO:=LH hno5
  have hgE:E1.g=E.g:=hlike.1
  have HE5:=LH he5
  have HT5:=LH ht5
  have HLL:=LH hlike
  have HS5:=LH (StS.turn HS.out ht5)
  have x0:=coh (i:=0) ho5
  have x1:=coh (i:=1) ho5
  have x2:=coh (i:=2) ho5
  have x3:=coh (i:=3) ho5
  have hw5:w.heap.size<w5.heap.size:=loh ho5
  have O5:=LH ho5
  simp at x0 x1 x2 x3
  have HOP:=LH (fun W=>operands_any op W)
  have B5:=LH ((Below.refl w5.heap.size w5).alloc (Nat.le_refl _) (.cells #[.int .i64 0,.int .i64 0,.nilFunc] 288))
  have HLB:=LH (fun W (hW:Below w5.heap.size w5 W)=>eg_label E1 sec { eg with used:=eg.used++[i+1] } lab hok.1 W (HE5.out.bel hW))
  have HLN:=LH (labelA_lines sec { eg with used:=eg.used++[i+1] } lab)
  rw [hgE] at HLB
  generalize hlb:labelA sec { eg with used:=eg.used++[i+1] } lab=lb at *
  obtain ⟨eg2,lk⟩:=lb
  simp only at HV1 HLN
  clear he5 hlike ht5 ho5 hno5 HUS hlb HCN
  cases hd:dirA op with
  | some p=>
   rw [hd] at HOP
   have HLD:=LH (fun W (hW:Below w5.heap.size w5 W)=>laid_any ⟨lab,colon,op,args⟩ (.slice A args.length c) p.1 p.2 (by have:=dirA_le hd;omega) W (HS5.out.lt.at hW hW.size))
   have HFO:Hid (foundA F ⟨lab,colon,op,args⟩ i eg=laidA ⟨lab,colon,op,args⟩ p.1 p.2):=LH (by unfold foundA;simp only [hd])
   have HBO:Hid (∀ g,bodyA F sec ⟨lab,colon,op,args⟩ i g=directA sec ⟨lab,colon,op,args⟩ i g):=LH (fun g=>by unfold bodyA;simp only [hd])
   have HDI:=LH (fun E' eg' (hld:laidA ⟨lab,colon,op,args⟩ p.1 p.2=true) W (hE:EgAt W E' sec eg') (hn:eg'.lines.length<=1000000) (hS:StS W E' (.slice A args.length c) args)=>eg_dir E' sec eg' ⟨lab,colon,op,args⟩ p hd h1 h2 hld hok (.slice A args.length c) i hi W hE hn hS)
   have hdp:dirP (some p)=(p.1,p.2,true):=rfl
   rw [HFO.out] at HV1
   obtain ⟨p1,p2⟩:=p
   unfold stV at HLD HDI
   simp only [hdp] at HOP HLD HDI HV1
   clear hd hdp HFO h1 h2
   generalize laidA ⟨lab,colon,op,args⟩ p1 p2=ld at *
   go_wp2_with fail
   refine (HOP.out _).mono ?_
   rintro e w6 ⟨rfl,rfl⟩
   go_wp2_with fail
   refine (HLD.out _ B5.out).mono ?_
   rintro e w7 ⟨rfl,hb7⟩
   have B7:=LH (bthen B5.out hb7)
   have O7:=LH ((B7.out.block w.heap.size hw5).trans O5.out)
   have y0:=coh (i:=0) O7.out
   have y1:=coh (i:=1) O7.out
   have y2:=coh (i:=2) O7.out
   have y3:=coh (i:=3) O7.out
   simp at y0 y1 y2 y3
   clear hb7 x0 x1 x2 x3 HOP HLD
   cases ld with
   | false=>
    have HX:=LH (HV1.out.trans (if_pos rfl))
    clear HV1
    go_wp2_with fail
    go_ret
    rw [HX.out]
    exact EgR.other 2 (by decide) HLL.out (HT5.out.bel B7.out)
   | true=>
    have HV2:=LH (HV1.out.trans (if_neg (by simp)))
    clear HV1
    cases colon with
    | false=>
     have HX:Hid (res=directA sec ⟨lab,false,op,args⟩ i { eg with used:=eg.used++[i+1] }):=LH ((HV2.out.trans (if_neg (by simp))).trans (HBO.out _))
     have HC:=LH (HDI.out E1 { eg with used:=eg.used++[i+1] } rfl w7 (HE5.out.bel B7.out) hnl (StS.turn HS5.out (Turn.of_below B7.out)))
     rw [hgE] at HC
     have HTL:=LH (HT5.out.bel B7.out)
     clear HV2 HDI HLB
     go_wp2_with fail
     refine HC.out.mono ?_
     intro e wz hr
     have HR:=LH (hr.turn HLL.out HTL.out)
     obtain rfl:=hr.1
     clear hr HC
     go_wp2_with fail
     go_ret
     rw [HX.out]
     exact HR.out
    | true=>
     have HV3:=LH (HV2.out.trans (if_pos rfl))
     clear HV2
     go_wp2_with fail
     refine (HLB.out _ B7.out).mono ?_
     intro e w8 hr
     obtain ⟨rfl,E2,hl2,ht2,hE2⟩:=hr
     simp only at hE2
     have HT8:=LH ((HT5.out.bel B7.out).trans ht2)
     have HL8:=LH (HLL.out.trans hl2)
     have HE8:=LH hE2
     have HS8:=LH (StS.turn (StS.turn HS5.out (Turn.of_below B7.out)) ht2)
     have O8:=LH ((ht2.2.2.1 w.heap.size (loh O7.out) HNO.out).trans O7.out)
     have z0:=coh (i:=0) O8.out
     have z1:=coh (i:=1) O8.out
     have z2:=coh (i:=2) O8.out
     have z3:=coh (i:=3) O8.out
     simp at z0 z1 z2 z3
     have hg2:E2.g=E.g:=HL8.out.1
     clear hl2 ht2 hE2 y0 y1 y2 y3 HLB
     by_cases hk:lk=0
     ·subst hk
      have HX:Hid (res=directA sec ⟨lab,true,op,args⟩ i eg2):=LH ((HV3.out.trans (if_neg (by simp))).trans (HBO.out _))
      have HC:=LH (HDI.out E2 eg2 (by first | rfl | trivial) w8 (HE8.out (by first | rfl | trivial)) (by rw [HLN.out.1];exact hnl) HS8.out)
      rw [hg2] at HC
      clear HV3 HDI
      go_wp2_with fail
      refine HC.out.mono ?_
      intro e wz hr
      have HR:=LH (hr.turn HL8.out HT8.out)
      obtain rfl:=hr.1
      clear hr HC
      go_wp2_with fail
      go_ret
      rw [HX.out]
      exact HR.out
     ·have e5:((lk:Int) != 0)=true:=by rw [bne_iff_ne];omega
      have HX:=LH (HV3.out.trans (if_pos hk))
      have hkk:=LH hk
      clear HV3 hk HDI
      go_wp2_with fail
      go_ret
      rw [HX.out]
      exact EgR.other lk hkk.out HL8.out HT8.out
  | none=>
   rw [hd] at HOP
   have hdp:dirP none=(0,0,false):=rfl
   simp only [hdp] at HOP
   have HFO:Hid (foundA F ⟨lab,colon,op,args⟩ i eg=(F ([],false) ⟨lab,colon,op,args⟩ 0).isSome):=LH (by unfold foundA;simp only [hd];rw [hF.out.st])
   have HBO:Hid (∀ g cd,F ([],false) ⟨lab,colon,op,args⟩ 0=some cd->bodyA F sec ⟨lab,colon,op,args⟩ i g=instrA sec cd ⟨lab,colon,op,args⟩ i g):=LH (fun g cd hcd=>by
    unfold bodyA
    simp only [hd]
    rw [hF.out.st,hcd])
   have HFD:=LH (fun W (hW:Below w5.heap.size w5 W)=>HFI.out E1.own W (.slice A args.length c) (i:Int) (HT5.out.bel hW) (HS5.out.lt.at hW hW.size))
   have HIN:=LH (fun E' eg' cd (hcd:F ([],false) ⟨lab,colon,op,args⟩ 0=some cd) W (hE:EgAt W E' sec eg') (hn:eg'.lines.length<=1000000) (hS:StS W E' (.slice A args.length c) args) wa wb u (hu:CodeAt wa wb cd u) (hcs:CodeS wa wb W E'.own)=>eg_ins E' sec eg' cd ⟨lab,colon,op,args⟩ (hF.out.ok hcd) hok wa wb u hu (.slice A args.length c) i hi W hcs hE hn hS)
   rw [HFO.out] at HV1
   unfold stV at HFD HIN
   simp only at HFD HIN
   have k18:=HE5.out.cell.2.2.1
   rw [hgE,HLL.out.2.2.2.2,hD] at k18
   have hg5:E.g<w5.heap.size:=by rw [← hgE];exact HE5.out.lt
   have n18:=fun o1=>new_keep (o:=o1) k18
   have HOWN:=LH HE5.out.owned
   generalize F ([],false) ⟨lab,colon,op,args⟩ 0=fo at *
   clear hd hdp HFO h1 h2 k18
   go_wp2_with fail
   refine (HOP.out _).mono ?_
   rintro e w6 ⟨rfl,rfl⟩
   go_upto_region 10 with (fail)
   have O6:=LH (heap_alloc_new w5 (.cells #[.int .i64 0,.int .i64 0,.nilFunc] 288))
   go_cut [11,52,53,54,55,56,57,58,59,60,61] (fun k11 _ _ _ _ _ _ _ _ _ _ wx=>k11=.bool fo.isSome/\Below w5.heap.size w5 wx/\∃ (a b:Int) (f:Value),wx.heap[w5.heap.size]? = some (.cells #[.int .i64 a,.int .i64 b,f] 288 (0,0)) /\
    ∀ cd,fo=some cd->∃ wa wb,CodeAt wa wb cd (.agg #[.int .i64 a,.int .i64 b,f])/\w5.heap.size<wa.heap.size/\wb.heap.size<=wx.heap.size/\∀ k,wa.heap.size<=k->k<wb.heap.size->wx.heap[k]? = wb.heap[k]?)
   case first=>
    cases z
    all_goals (
     simp only [tonV] at n18
     have hz6:(w5.alloc (.cells #[.int .i64 0,.int .i64 0,.nilFunc] 288)).heap.size=w5.heap.size+1:=by simp
     have HZ6:=LH hz6
     clear hz6
     go_region_with (first | (refine (HFD.out _ B5.out.drew).mono ?_;rintro e w7 ⟨hb7,u,rfl,⟨ua,ub,uf,rfl,huf⟩,hcd7⟩;have hstf:=store_f huf;have HUF:=LH huf;have HCD7:=LH hcd7;clear huf hcd7;have O7:=(hb7.block w5.heap.size (by have:=HZ6.out;show w5.heap.size<(w5.alloc _).heap.size;omega)).trans O6.out;have y0:=coh (i:=0) O7;have y1:=coh (i:=1) O7;have y2:=coh (i:=2) O7;have f0:=foh (i:=0) O7;have f1:=foh (i:=1) O7;have f2:=foh (i:=2) O7;simp at y0 y1 y2 f0 f1 f2))
     all_goals (
      have BW:=LH (bthen B5.out.drew hb7)
      have HB7:=LH hb7.size
      have O8:=LH (heap_set (i:=2) uf (heap_set (i:=1) (.int .i64 ub) (heap_set (i:=0) (.int .i64 ua) O7)))
      clear hb7 O7 hstf
      go_simp
      go_wp2_with fail
      go_meet
      refine ⟨rfl,((BW.out.setCell (Nat.le_refl _) _).setCell (Nat.le_refl _) _).setCell (Nat.le_refl _) _,ua,ub,uf,O8.out,fun cd hcd=>?_⟩
      have h6:=HZ6.out
      exact ⟨_,w7,HCD7.out cd hcd,by show w5.heap.size<(w5.alloc _).heap.size;omega,by simp,fun k hk1 hk2=>by
       have h7:(w5.alloc (.cells #[.int .i64 0,.int .i64 0,.nilFunc] 288)).heap.size<=k:=hk1
       exact ((set_block (by omega)).trans (set_block (by omega))).trans (set_block (by omega))⟩))
   case rest=>
    obtain ⟨rfl,hbx,ca,cb,cf,hcb,hcdx⟩:=hcut
    have BX:=LH hbx
    have OC:=LH hcb
    have HCX:=LH hcdx
    have O7:=LH ((hbx.block w.heap.size hw5).trans O5.out)
    have y0:=coh (i:=0) O7.out
    have y1:=coh (i:=1) O7.out
    have y2:=coh (i:=2) O7.out
    have y3:=coh (i:=3) O7.out
    have c0:=coh (i:=0) hcb
    have c1:=coh (i:=1) hcb
    have c2:=coh (i:=2) hcb
    simp at y0 y1 y2 y3 c0 c1 c2
    clear hbx hcb hcdx x0 x1 x2 x3 HOP HFD n18
    cases hfd:fo with
    | none=>
     have HX:=LH (HV1.out.trans (if_pos (by rw [hfd];rfl)))
     clear HV1 hfd HIN HBO
     go_wp2_with fail
     go_ret
     rw [HX.out]
     exact EgR.other 2 (by decide) HLL.out (HT5.out.bel BX.out)
    | some cd=>
     have HV2:=LH (HV1.out.trans (if_neg (by rw [hfd];simp)))
     obtain ⟨wa,wb,hca,hwa,hwb,hkeep⟩:=HCX.out cd hfd
     have HCA:=LH hca
     have HCS:Hid (CodeS wa wb wc E1.own):=LH ⟨hwb,fun k h3 h4=>⟨hkeep k h3 h4,fun hm=>by have:=HOWN.out k hm;omega⟩⟩
     have HFDC:=LH hfd
     clear HV1 hca hkeep HCX hwa hwb hfd
     cases colon with
     | false=>
      have HX:Hid (res=instrA sec cd ⟨lab,false,op,args⟩ i { eg with used:=eg.used++[i+1] }):=LH ((HV2.out.trans (if_neg (by simp))).trans (HBO.out _ cd HFDC.out))
      have HC:=LH (HIN.out E1 { eg with used:=eg.used++[i+1] } cd HFDC.out wc (HE5.out.bel BX.out) hnl (StS.turn HS5.out (Turn.of_below BX.out)) wa wb _ HCA.out HCS.out)
      rw [hgE] at HC
      have HTL:=LH (HT5.out.bel BX.out)
      clear HV2 HIN HLB HBO HCA HCS HFDC
      go_wp2_with fail
      refine HC.out.mono ?_
      intro e wz hr
      have HR:=LH (hr.turn HLL.out HTL.out)
      obtain rfl:=hr.1
      clear hr HC
      go_wp2_with fail
      go_ret
      rw [HX.out]
      exact HR.out
     | true=>
      have HV3:=LH (HV2.out.trans (if_pos rfl))
      clear HV2
      go_wp2_with fail
      refine (HLB.out _ BX.out).mono ?_
      intro e w8 hr
      obtain ⟨rfl,E2,hl2,ht2,hE2⟩:=hr
      simp only at hE2
      have HT8:=LH ((HT5.out.bel BX.out).trans ht2)
      have HL8:=LH (HLL.out.trans hl2)
      have HE8:=LH hE2
      have HS8:=LH (StS.turn (StS.turn HS5.out (Turn.of_below BX.out)) ht2)
      have HCS8:=LH (CodeS.turn HCS.out ht2)
      have O8:=LH ((ht2.2.2.1 w.heap.size (loh O7.out) HNO.out).trans O7.out)
      have OC8:=LH ((ht2.2.2.1 w5.heap.size (loh OC.out) (fun hm=>by have:=HOWN.out w5.heap.size hm;omega)).trans OC.out)
      have z0:=coh (i:=0) O8.out
      have z1:=coh (i:=1) O8.out
      have z2:=coh (i:=2) O8.out
      have z3:=coh (i:=3) O8.out
      have d0:=coh (i:=0) OC8.out
      have d1:=coh (i:=1) OC8.out
      have d2:=coh (i:=2) OC8.out
      simp at z0 z1 z2 z3 d0 d1 d2
      have hg2:E2.g=E.g:=HL8.out.1
      clear hl2 ht2 hE2 y0 y1 y2 y3 c0 c1 c2 HLB
      by_cases hk:lk=0
      ·subst hk
       have HX:Hid (res=instrA sec cd ⟨lab,true,op,args⟩ i eg2):=LH ((HV3.out.trans (if_neg (by simp))).trans (HBO.out _ cd HFDC.out))
       have HC:=LH (HIN.out E2 eg2 cd HFDC.out w8 (HE8.out (by first | rfl | trivial)) (by rw [HLN.out.1];exact hnl) HS8.out wa wb _ HCA.out HCS8.out)
       rw [hg2] at HC
       clear HV3 HIN HBO HCA HCS HFDC HCS8
       go_wp2_with fail
       refine HC.out.mono ?_
       intro e wz hr
       have HR:=LH (hr.turn HL8.out HT8.out)
       obtain rfl:=hr.1
       clear hr HC
       go_wp2_with fail
       go_ret
       rw [HX.out]
       exact HR.out
      ·have e5:((lk:Int) != 0)=true:=by rw [bne_iff_ne];omega
       have HX:=LH (HV3.out.trans (if_pos hk))
       have hkk:=LH hk
       clear HV3 hk HIN HBO HCA HCS HFDC HCS8
       go_wp2_with fail
       go_ret
       rw [HX.out]
       exact EgR.other lk hkk.out HL8.out HT8.out
end Go.Proofs.YtbdnbfacalfciaaGreatDoor
