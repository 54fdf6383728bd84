/- Xr. -/
import Derived.Test.YtijgppokofganaaGreatDoorLaw5a
import Derived.Test.YtijgppokofganaaGreatDoorKo
import Derived.Test.YtijgppokofganaaGreatDoorXo
import Derived.Test.YtijgppokofganaaGreatDoorXv
import Derived.Test.YtijgppokofganaaGreatDoorKn
namespace Go.Proofs.YtijgppokofganaaGreatDoor
set_option maxRecDepth 100000
set_option maxHeartbeats 4000000
open Go.RowKit
theorem count_le12 (x:Ex):∀ d,lightE x d=true->countE 100 x<=101 * d:=by
 induction x using Ex.ind with
 | h o n m s ih=>
  intro d h
  rw [lightE_mk,lightL_all] at h
  simp only [Bool.and_eq_true,List.all_eq_true] at h
  obtain ⟨⟨⟨⟨h0,_⟩,_⟩,_⟩,h1⟩:=h
  have hd:d≠0:=by simpa using h0
  have:=countL_le 100 (101 * (d - 1)) s (fun e he=>ih e he (d - 1) (h1 e he)) 1
  rw [countE_mk]
  omega
def CountH12 (x:Ex):Prop:=∀ (d:Nat) (v:Value) (w:World),d<=1000->lightE x d=true->SubAt w (· < w.heap.size) v x.sub ->
 Calls Tryz.prog 10 #[.agg #[.string ⟨x.op.toArray⟩,.int .u16 x.n,.string ⟨x.name.toArray⟩,v]] w fun e w'=>e=.returned (.int .i64 (countE 100 x))/\Below w.heap.size w w'
theorem count12_any (x:Ex):CountH12 x:=by
 induction x using Ex.ind with
 | h o n m s ih=>
  intro d v w hd hli hs
  simp only [Ex.op,Ex.name,Ex.n,Ex.sub] at hs ⊢
  rw [lightE_mk,lightL_all] at hli
  simp only [Bool.and_eq_true,List.all_eq_true] at hli
  have HLI:=LH hli.2
  obtain ⟨A,c,rfl,hc,hm2⟩:=hs.form
  unfold maxLen at hm2
  have HR:Hid (countL 100 (s.drop 0) 1=countE 100 (.mk o n m s)):=LH (by rw [countE_mk];rfl)
  have HS:=LH hs
  have HI:=LH ih
  clear hs ih hli
  generalize countE 100 (.mk o n m s)=res at *
  go_enter Tryz.func10, Tryz.ntmps10
  go_wp2_with fail
  go_loopw [3,4] (fun t i wr=>∃ k y:Nat,k<=s.length/\y<=400000/\i=.int .i64 k/\t=.int .i64 y/\countL 100 (s.drop k) y=res/\Below (w.heap.size+1) (w.alloc (.cells #[Sx o,.int .u16 n,Sx m,.slice A s.length c] 34)) wr) (fun _ i _=>s.length - (intOf i).toNat)
  case atStart=>exact ⟨0,1,Nat.zero_le _,by omega,rfl,rfl,HR.out,Below.refl _ _⟩
  case round=>
   clear HR
   obtain ⟨k,y,hk,hy,rfl,rfl,hall,hb⟩:=hrel
   have hz:w.heap.size<wr.heap.size:=by have:=hb.size;simp at this;omega
   have e3:=box_at hb 3 _ rfl
   have hbw:Below w.heap.size w wr:=(bra _ _).trans (hb.mono (by omega))
   have HALL:=LH hall
   have HB:=LH hb
   clear hall hb
   by_cases hlt:k<s.length
   ·by_cases hy3:y<=100
    ·have hy3':(y:Int)<=100:=by omega
     obtain ⟨g,q,vk,rfl,hg,c0,c1,c2,c3,hsub,hn,hoo⟩:=HS.out.get k hlt
     obtain ⟨vA,vc,rfl,_,_⟩:=hsub.form
     have d0:=(hbw.cell (p:=⟨g,q+k * 4,none⟩) hg).trans c0
     have d1:=(hbw.cell (p:=⟨g,q+k * 4+1,none⟩) hg).trans c1
     have d2:=(hbw.cell (p:=⟨g,q+k * 4+2,none⟩) hg).trans c2
     have d3:=(hbw.cell (p:=⟨g,q+k * 4+3,none⟩) hg).trans c3
     have hli:=HLI.out s[k] (List.getElem_mem hlt)
     have hcl:=count_le12 s[k] (d - 1) hli
     have HC:=LH (HI.out s[k] (List.getElem_mem hlt) (d - 1) _ wr (by omega) hli ((hsub.bel hbw).more (fun x hx=>Nat.lt_of_lt_of_le hx hbw.size)))
     have HT:Hid (countL 100 (s.drop (k+1)) (y+countE 100 s[k])=res):=LH (by rw [← HALL.out,List.drop_eq_getElem_cons hlt,countL_cons,if_pos hy3])
     generalize countE 100 s[k]=ck at *
     generalize s[k]=ek at *
     have HBW:=LH hbw
     clear c0 c1 c2 c3 hsub hbw hli
     go_wp2_with fail
     refine HC.out.mono ?_
     rintro e0 w5 ⟨rfl,hb5⟩
     go_wp2_with fail
     go_roundw
     case rel=>exact ⟨k+1,y+ck,by omega,by omega,by go_num,by go_num,HT.out,HB.out.trans (hb5.mono hz)⟩
     case measure=>simp [intOf];omega
    ·have hy3':decide ((y:Int)<=100)=false:=by simp;omega
     have hrl:y=res:=by rw [← HALL.out,List.drop_eq_getElem_cons hlt,countL_cons,if_neg hy3]
     subst hrl
     have HBW:=LH hbw
     clear hbw
     go_wp2_with fail
     go_ret
     exact ⟨rfl,HBW.out⟩
   ·obtain rfl:k=s.length:=by omega
    have hrl:y=res:=by rw [← HALL.out,List.drop_length,countL_nil]
    subst hrl
    have HBW:=LH hbw
    clear hbw
    go_wp2_with fail
    go_ret
    exact ⟨rfl,HBW.out⟩
def lightA (a:Ar):Bool:=decide (a.w.length<=50) && decide (a.t.length<=300) && lightE a.e 30 && decide (countE 100 a.e<=100)
def light12 (s:St):Bool:=decide (s.label.length<=50) && decide (s.op.length<=50) && decide (s.args.length<=40) && s.args.all lightA
def okA (a:Ar):Prop:=a.w.length<=maxLen/\a.t.length<=maxLen/\okE a.e
def okS (s:St):Prop:=s.label.length<=maxLen/\s.op.length<=maxLen/\∀ a∈s.args,okA a
theorem all_take {l:List Ar} {p:Ar->Bool} (k:Nat) (hk:k<l.length) (h:(l.take k).all p=true) (h1:p l[k]=true):(l.take (k+1)).all p=true:=by
 rw [List.take_succ_eq_append_getElem hk,List.all_append,h];simpa using h1
theorem all_not {l:List Ar} {p:Ar->Bool} (k:Nat) (hk:k<l.length) (h1:p l[k]=false):l.all p=false:=by
 rw [List.all_eq_false];exact ⟨l[k],List.getElem_mem hk,by simp [h1]⟩
theorem light12_any (s:St) (v:Value) (w:World) (hok:okS s) (hs:ArAt w (· < w.heap.size) v s.args) :
  Calls Tryz.prog 4 #[stV s v] w fun e w'=>e=.returned (.bool (light12 s))/\Below w.heap.size w w':=by
 obtain ⟨A,c,rfl,hc,hm⟩:=hs.form
 obtain ⟨lab,colon,op,l⟩:=s
 obtain ⟨o1,o2,o3⟩:=hok
 unfold stV light12
 simp only at *
 unfold maxLen at o1 o2 hm
 have HS:=LH hs
 have HOK:=LH o3
 clear hs o3
 by_cases h1:50<lab.length
 ·have hres:(decide (lab.length<=50) && decide (op.length<=50) && decide (l.length<=40) && l.all lightA)=false:=by rw [decide_eq_false (by omega)];rfl
  rw [hres]
  have e1:(50:Int)<(lab.length:Int):=by omega
  clear hres h1
  go_enter Tryz.func4, Tryz.ntmps4
  go_wp2_with fail
  go_ret
  exact ⟨rfl,bra _ _⟩
 have e1:decide ((50:Int)<(lab.length:Int))=false:=by simp;omega
 by_cases h2:50<op.length
 ·have hres:(decide (lab.length<=50) && decide (op.length<=50) && decide (l.length<=40) && l.all lightA)=false:=by rw [decide_eq_false (p:=op.length<=50) (by omega)];simp
  rw [hres]
  have e2:(50:Int)<(op.length:Int):=by omega
  clear hres h1 h2
  go_enter Tryz.func4, Tryz.ntmps4
  go_wp2_with fail
  go_ret
  exact ⟨rfl,bra _ _⟩
 have e2:decide ((50:Int)<(op.length:Int))=false:=by simp;omega
 by_cases h3:40<l.length
 ·have hres:(decide (lab.length<=50) && decide (op.length<=50) && decide (l.length<=40) && l.all lightA)=false:=by rw [decide_eq_false (p:=l.length<=40) (by omega)];simp
  rw [hres]
  have e3:(40:Int)<(l.length:Int):=by omega
  clear hres h1 h2 h3
  go_enter Tryz.func4, Tryz.ntmps4
  go_wp2_with fail
  go_ret
  exact ⟨rfl,bra _ _⟩
 have e3:decide ((40:Int)<(l.length:Int))=false:=by simp;omega
 rw [decide_eq_true (p:=lab.length<=50) (by omega),decide_eq_true (p:=op.length<=50) (by omega),decide_eq_true (p:=l.length<=40) (by omega),Bool.true_and,Bool.true_and,Bool.true_and]
 have HNOT:=LH (fun k hk h=>all_not (l:=l) (p:=lightA) k hk h)
 have HTAKE:=LH (fun k hk h h1=>all_take (l:=l) (p:=lightA) k hk h h1)
 have HEND:Hid ((l.take l.length).all lightA=true->l.all lightA=true):=LH (fun h=>by rwa [List.take_length] at h)
 generalize l.all lightA=res at *
 clear h1 h2
 go_enter Tryz.func4, Tryz.ntmps4
 go_wp2_with fail
 go_loopw [3] (fun i wr=>∃ k:Nat,k<=l.length/\i=.int .i64 k/\(l.take k).all lightA=true/\Below (w.heap.size+1) (w.alloc (.cells #[Sx lab,.bool colon,Sx op,.slice A l.length c] 24)) wr) (fun i _=>l.length - (intOf i).toNat)
 case atStart=>exact ⟨0,Nat.zero_le _,rfl,rfl,Below.refl _ _⟩
 case round=>
  obtain ⟨k,hk,rfl,hall,hb⟩:=hrel
  have hz:w.heap.size<wr.heap.size:=by have:=hb.size;simp at this;omega
  have b3:=box_at hb 3 _ rfl
  have hbw:Below w.heap.size w wr:=(bra _ _).trans (hb.mono (by omega))
  have HALL:=LH hall
  have HB:=LH hb
  have HBW:=LH hbw
  clear hall hb
  by_cases hlt:k<l.length
  ·obtain ⟨g,o,vk,hA,hgl,c0,c1,c2,c3,c4,c5,c6,c7,hsub⟩:=(HS.out.at hbw hbw.size).get k hlt
   subst hA
   obtain ⟨sA,sc,rfl,hsc,hsm⟩:=hsub.form
   obtain ⟨k1,k2,k3⟩:=HOK.out _ (List.getElem_mem hlt)
   unfold maxLen at k1 k2
   have HL:=LH (fun o W (hW:Below (wr.alloc o).heap.size (wr.alloc o) W)=>Light_any l[k].e 30 _ W (by omega) k3 (hsub.keep (w':=W) (S':=(· < W.heap.size)) (fun p (hp:p.block<wr.heap.size)=>(hW.cell (p:=p) (by simp;omega)).trans (World.cell?_alloc_lt _ _ _ hp)) (fun g (hg:g<wr.heap.size)=>by have:=hW.size;simp at this;omega)))
   have HC:=LH (fun o W (hW:Below (wr.alloc o).heap.size (wr.alloc o) W) (hli:lightE l[k].e 30=true)=>count12_any l[k].e 30 _ W (by omega) hli (hsub.keep (w':=W) (S':=(· < W.heap.size)) (fun p (hp:p.block<wr.heap.size)=>(hW.cell (p:=p) (by simp;omega)).trans (World.cell?_alloc_lt _ _ _ hp)) (fun g (hg:g<wr.heap.size)=>by have:=hW.size;simp at this;omega)))
   have HCL:=LH (fun (hli:lightE l[k].e 30=true)=>count_le12 l[k].e 30 hli)
   have HN2:=LH (fun h=>HNOT.out k hlt h)
   have HT2:=LH (fun h=>HTAKE.out k hlt HALL.out h)
   have HDEF:Hid (lightA l[k]=(decide (l[k].w.length<=50) && decide (l[k].t.length<=300) && lightE l[k].e 30 && decide (countE 100 l[k].e<=100))):=LH rfl
   generalize lightA l[k]=la at *
   generalize l[k]=a at *
   clear hsub hsc hsm k3 HS HOK HNOT HTAKE hbw
   by_cases t1:50<a.w.length
   ·obtain rfl:la=false:=by rw [HDEF.out,decide_eq_false (p:=a.w.length<=50) (by omega)];simp
    have hres:=HN2.out rfl
    subst hres
    have f1:(50:Int)<(a.w.length:Int):=by omega
    clear HDEF t1
    go_wp2_with fail
    go_ret
    exact ⟨rfl,HBW.out.alloc HBW.out.size _⟩
   have f1:decide ((50:Int)<(a.w.length:Int))=false:=by simp;omega
   by_cases t2:300<a.t.length
   ·obtain rfl:la=false:=by rw [HDEF.out,decide_eq_false (p:=a.t.length<=300) (by omega)];simp
    have hres:=HN2.out rfl
    subst hres
    have f2:(300:Int)<(a.t.length:Int):=by omega
    clear HDEF t1 t2
    go_wp2_with fail
    go_ret
    exact ⟨rfl,HBW.out.alloc HBW.out.size _⟩
   have f2:decide ((300:Int)<(a.t.length:Int))=false:=by simp;omega
   cases hli:lightE a.e 30 with
   | false=>
    obtain rfl:la=false:=by rw [HDEF.out,hli];simp
    have hres:=HN2.out rfl
    subst hres
    rw [hli] at HL
    clear HDEF t1 t2 hli HC HCL
    go_wp2_with fail
    refine (HL.out _ _ (Below.refl _ _)).mono ?_
    rintro e w2 ⟨rfl,hb2⟩
    go_wp2_with fail
    go_ret
    exact ⟨rfl,bthen (HBW.out.alloc HBW.out.size _) hb2⟩
   | true=>
    have hcl:=HCL.out hli
    have HC2:=LH (fun o W hW=>HC.out o W hW hli)
    rw [hli] at HL
    have HD2:=LH (show la=decide (countE 100 a.e<=100) by rw [HDEF.out,hli,decide_eq_true (p:=a.w.length<=50) (by omega),decide_eq_true (p:=a.t.length<=300) (by omega)];simp)
    generalize countE 100 a.e=cn at *
    clear HDEF hli HC HCL t1 t2
    by_cases t3:100<cn
    ·obtain rfl:la=false:=by rw [HD2.out,decide_eq_false (by omega)]
     have hres:=HN2.out rfl
     subst hres
     have f3:(100:Int)<(cn:Int):=by omega
     clear HD2
     go_wp2_with fail
     refine (HL.out _ _ (Below.refl _ _)).mono ?_
     rintro e w2 ⟨rfl,hb2⟩
     have x:=(hb2.block wr.heap.size (by simp)).trans (heap_alloc_new wr _)
     obtain ⟨⟨x0,x1,x2,x3,x4,x5,x6,x7⟩,_⟩:=eight x
     have BB2:=LH hb2
     clear hb2 x
     go_wp2_with fail
     refine (HC2.out _ _ BB2.out).mono ?_
     rintro e w3 ⟨rfl,hb3⟩
     go_wp2_with fail
     go_ret
     exact ⟨rfl,bthen (bthen (HBW.out.alloc HBW.out.size _) BB2.out) hb3⟩
    ·obtain rfl:la=true:=by rw [HD2.out,decide_eq_true (by omega)]
     have HT3:=LH (HT2.out rfl)
     have f3:decide ((100:Int)<(cn:Int))=false:=by simp;omega
     clear HD2 HN2 HT2
     go_wp2_with fail
     refine (HL.out _ _ (Below.refl _ _)).mono ?_
     rintro e w2 ⟨rfl,hb2⟩
     have x:=(hb2.block wr.heap.size (by simp)).trans (heap_alloc_new wr _)
     obtain ⟨⟨x0,x1,x2,x3,x4,x5,x6,x7⟩,_⟩:=eight x
     have BB2:=LH hb2
     clear hb2 x
     go_wp2_with fail
     refine (HC2.out _ _ BB2.out).mono ?_
     rintro e w3 ⟨rfl,hb3⟩
     have BX:=LH (bthen (bra wr _) (bthen BB2.out hb3))
     go_wp2_with fail
     go_roundw
     case rel=>exact ⟨k+1,by omega,by go_num,HT3.out,HB.out.trans (BX.out.mono hz)⟩
     case measure=>simp [intOf];omega
  ·obtain rfl:k=l.length:=by omega
   have hres:=HEND.out HALL.out
   subst hres
   clear hbw
   go_wp2_with fail
   go_ret
   exact ⟨rfl,HBW.out⟩
theorem SubAt.fitL19 {w:World} {S:Nat->Prop} {v:Value} {sub:List Ex} (h:SubAt w S v sub):∀ d,lightL sub d=true->fitL sub=true:=by
 induction h with
 | mk A c sub vs hc hm hz hn hs ih=>
  intro d hl
  rw [lightL_all,List.all_eq_true] at hl
  have key:∀ e∈sub,fitE e=true:=by
   intro e he
   obtain ⟨i,hi,rfl⟩:=List.getElem_of_mem he
   have h1:=hl _ he
   have h2:=ih i hi (d - 1)
   have h3:=hn i hi
   generalize sub[i]=e at *
   obtain ⟨o,n,m,s⟩:=e
   rw [lightE_mk] at h1
   simp only [Bool.and_eq_true,decide_eq_true_eq] at h1
   simp only [Ex.op,Ex.n,Ex.name,Ex.sub] at h2 h3
   simp only [fitE,Bool.and_eq_true,decide_eq_true_eq]
   exact ⟨⟨⟨h3.1,by omega⟩,by omega⟩,h2 h1.2⟩
  clear hl ih hs hn hz hm hc
  induction sub with
  | nil=>rfl
  | cons e s ih=>
   simp only [Proofs.YtijgppokofganaaGreatDoor.fitL,Bool.and_eq_true]
   exact ⟨key e (by simp),ih (fun x hx=>key x (by simp [hx]))⟩
theorem light19_fit {w:World} {S:Nat->Prop} {v:Value} {e:Ex} (h:SubAt w S v e.sub) (hok:okE e) (hl:lightE e 30=true):fitE e=true:=by
 have h2:=h.fitL19
 obtain ⟨o,n,m,s⟩:=e
 rw [lightE_mk] at hl
 simp only [Bool.and_eq_true,decide_eq_true_eq] at hl
 simp only [Ex.sub] at h2
 simp only [fitE,Bool.and_eq_true,decide_eq_true_eq]
 obtain ⟨q1,_,_⟩:=hok
 exact ⟨⟨⟨q1,by omega⟩,by omega⟩,h2 _ hl.2⟩
theorem light_fitS {w:World} {S:Nat->Prop} {v:Value} {s:St} (h:ArAt w S v s.args) (hok:okS s) (hl:light12 s=true):fitS s:=by
 obtain ⟨A,c,vs,_,_,_,_,h5⟩:=h
 unfold light12 at hl
 simp only [Bool.and_eq_true,decide_eq_true_eq,List.all_eq_true] at hl
 obtain ⟨⟨⟨l1,l2⟩,l3⟩,l4⟩:=hl
 refine ⟨by omega,by omega,fun a ha=>?_⟩
 have h6:=l4 a ha
 unfold lightA at h6
 simp only [Bool.and_eq_true,decide_eq_true_eq] at h6
 refine ⟨by omega,by omega,?_⟩
 obtain ⟨i,hi,rfl⟩:=List.getElem_of_mem ha
 exact light19_fit (h5 i hi) (hok.2.2 _ ha).2.2 h6.1.2
theorem law19s_bad (s:St) (v:Value) (w:World) (hg:GWL w) (hs:ArAt w (· < w.heap.size) v s.args) (hok:okS s) (hl:light12 s=false) :
  Calls Tryz.prog 3 #[stV s v] w fun r w'=>r=.returned (.bool true)/\Below w.heap.size w w':=by
 have HAl:=LH (fun W (hW:Below w.heap.size w W)=>alive19_any W (hg.below hW))
 have HLI:=LH (fun o=>light12_any s v (w.alloc o) hok (hs.keep (fun p hp=>World.cell?_alloc_lt _ _ _ hp) (fun g (hg:g<w.heap.size)=>by simp;omega)))
 have B2:=LH (fun o1=>(bra w o1))
 rw [hl] at HLI
 obtain ⟨A,c,rfl,hc,hm⟩:=hs.form
 clear hl hs
 unfold stV at *
 go_enter Tryz.func3, Tryz.ntmps3
 go_wp2_with fail
 refine (HLI.out _).mono ?_
 rintro r w1 ⟨rfl,hb1⟩
 have B3:=LH (bthen (B2.out _) hb1)
 clear hb1
 go_wp2_with fail
 refine (HAl.out _ B3.out).mono ?_
 rintro r w2 ⟨rfl,hb2⟩
 go_wp2_with fail
 go_ret
 exact ⟨rfl,bthen B3.out hb2⟩
theorem law19s_good (s:St) (v:Value) (w:World) (hg:GWL w) (hs:ArAt w (· < w.heap.size) v s.args) (hok:okS s) (hl:light12 s=true) :
  Calls Tryz.prog 3 #[stV s v] w fun r w'=>r=.returned (.bool true)/\Below w.heap.size w w':=by
 have hfit:=light_fitS hs hok hl
 have HAl:=LH (fun W (hW:Below w.heap.size w W)=>alive19_any W (hg.below hW))
 have HLI:=LH (fun o=>light12_any s v (w.alloc o) hok (hs.keep (fun p hp=>World.cell?_alloc_lt _ _ _ hp) (fun g (hg:g<w.heap.size)=>by simp;omega)))
 have B2:=LH (fun o1=>(bra w o1))
 have HA:=LH (fun W (hW:Below w.heap.size w W)=>wstmt_any s v W (hg.below hW) hfit (hs.at hW hW.size))
 have HB:=LH (fun W (hW:Below w.heap.size w W)=>rstmt_any s v W hfit (hs.at hW hW.size))
 rw [hl] at HLI
 obtain ⟨A,c,rfl,hc,hm⟩:=hs.form
 have OB:=LH (heap_alloc_new w (.cells #[Sx s.label,.bool s.colon,Sx s.op,.slice A s.args.length c] 24))
 generalize stmtRw s=q at *
 obtain ⟨t,k⟩:=q
 have hk:((k:Int) == (k:Int))=true:=by simp
 clear hl hs hfit
 unfold stV StmtP at *
 simp only at HA HB
 go_enter Tryz.func3, Tryz.ntmps3
 go_wp2_with fail
 refine (HLI.out _).mono ?_
 rintro r w1 ⟨rfl,hb1⟩
 have B3:=LH (bthen (B2.out _) hb1)
 have O1:=LH ((hb1.block w.heap.size (by simp)).trans OB.out)
 obtain ⟨⟨x0,x1,x2,x3⟩,_⟩:=four O1.out
 clear hb1 HLI
 go_wp2_with fail
 refine (HA.out _ B3.out).mono ?_
 rintro r w2 ⟨u,rfl,hsu,hb2⟩
 have B4:=LH (bthen B3.out hb2)
 obtain ⟨uA,uc,rfl,_,_⟩:=hsu.form
 have hw2:w.heap.size<w2.heap.size:=Nat.lt_of_lt_of_le (loh O1.out) hb2.size
 have O2:=LH ((hb2.block w.heap.size (loh O1.out)).trans O1.out)
 have HSU:=LH hsu
 have B5:=LH (B4.out.alloc B4.out.size (.cells #[Sx t.label,.bool t.colon,Sx t.op,.slice uA t.args.length uc] 24))
 have P2:=LH (heap_alloc_new w2 (.cells #[Sx t.label,.bool t.colon,Sx t.op,.slice uA t.args.length uc] 24))
 clear hb2 hsu HA x0 x1 x2 x3
 obtain ⟨⟨x0,x1,x2,x3⟩,_⟩:=four O2.out
 go_wp2_with fail
 refine (HB.out _ B5.out).mono ?_
 rintro r w4 ⟨u2,rfl,hsu2,hb4⟩
 obtain ⟨vA,vc,rfl,_,_⟩:=hsu2.form
 have B6:=LH (bthen B5.out hb4)
 have P4:=LH ((hb4.block w2.heap.size (by simp)).trans P2.out)
 have hw4:=loh P4.out
 have B7:=LH (fun o=>B6.out.alloc B6.out.size o)
 have HSM:=LH (fun o=>refSame12_eq t (.slice uA t.args.length uc) (.slice vA t.args.length vc) (w4.alloc o)
  (HSU.out.keep (fun p hp=>(World.cell?_alloc_lt _ _ _ (by have h9:p.block<w2.heap.size:=hp;omega)).trans ((hb4.cell (p:=p) (by have h9:p.block<w2.heap.size:=hp;simp;omega)).trans (World.cell?_alloc_lt _ _ _ hp))) (fun g hg=>by have h9:g<w2.heap.size:=hg;simp;omega))
  (hsu2.keep (fun p hp=>World.cell?_alloc_lt _ _ _ hp) (fun g hg=>by have h9:g<w4.heap.size:=hg;simp;omega)))
 unfold stV at HSM
 obtain ⟨⟨y0,y1,y2,y3⟩,_⟩:=four P4.out
 clear hb4 hsu2 HB x0 x1 x2 x3 HSU
 go_wp2_with fail
 refine (HSM.out _).mono ?_
 rintro r w5 ⟨rfl,hb5⟩
 have B8:=LH (bthen (B7.out _) hb5)
 clear hb5
 go_wp2_with fail
 refine (HAl.out _ B8.out).mono ?_
 rintro r w6 ⟨rfl,hb6⟩
 go_wp2_with fail
 go_ret
 exact ⟨rfl,bthen B8.out hb6⟩
theorem rewriteStmts_walk (s:St) (v:Value) (w:World) (hg:GWL w) (hs:ArAt w (· < w.heap.size) v s.args) (hok:okS s) :
  Calls Tryz.prog 3 #[stV s v] w fun r w'=>r=.returned (.bool true)/\Below w.heap.size w w':=by
 cases hl:light12 s with
 | false=>exact law19s_bad s v w hg hs hok hl
 | true=>exact law19s_good s v w hg hs hok hl
end Go.Proofs.YtijgppokofganaaGreatDoor
