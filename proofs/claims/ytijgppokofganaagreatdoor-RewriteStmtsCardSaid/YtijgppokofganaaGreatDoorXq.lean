/- Xq. -/
import Derived.Test.YtijgppokofganaaGreatDoorXm
import Derived.Test.YtijgppokofganaaGreatDoorXp
namespace Go.Proofs.YtijgppokofganaaGreatDoor
set_option maxRecDepth 100000
set_option maxHeartbeats 16000000
open Go.RowKit
theorem trimU_mark (l:List UInt8):trimU (l++[95])=trimU l:=by
 unfold trimU
 simp
theorem trimU_other (l:List UInt8) (c:UInt8) (h:c≠95):trimU (l++[c])=l++[c]:=by
 unfold trimU
 simp [h]
theorem refRename_any (s:List UInt8) (hs:s.length<=1000000) (w:World):Calls Tryz.prog 22 #[.string ⟨s.toArray⟩] w fun e w'=>e=.returned (.tuple #[.string ⟨(renA s).1.toArray⟩,.int .i64 ((renA s).2:Nat)])/\Below w.heap.size w w':=by
 have HV:Hid (renA s=if resB 1 (trimU s)=false∨resB 0 (trimU s)=true then (s,0) else if 16<=s.length then ([],11) else (s++[95],0)):=LH rfl
 generalize renA s=res at *
 go_enter Tryz.func22, Tryz.ntmps22
 go_wp2_with fail
 go_loopw [4] (fun i wr=>∃ n:Nat,n<=s.length/\i=.int .i64 n/\trimU (s.take n)=trimU s/\wr=w) (fun i _=>(intOf i).toNat)
 case atStart=>exact ⟨s.length,Nat.le_refl _,rfl,by rw [List.take_length],rfl⟩
 case round=>
  obtain ⟨n,hn,rfl,ht,rfl⟩:=hrel
  have HT:=LH ht
  clear ht
  by_cases hgo:∃ (m:Nat) (hm:m<s.length),n=m+1/\s[m]=95
  ·obtain ⟨m,hm,rfl,hc⟩:=hgo
   have HT2:Hid (trimU (s.take m)=trimU s):=LH (by rw [← HT.out,List.take_succ_eq_append_getElem hm,hc,trimU_mark])
   have e1:IntKind.i64.wrap ((m:Int)+1 - 1)=(m:Int):=by rw [IntWalk.i64_in _ (by omega)];omega
   have e2:(m:Int)+1 - 1=(m:Int):=by omega
   have e3:(0:Int)<(m:Int)+1:=by omega
   rw [show ((m+1:Nat):Int)=(m:Int)+1 by omega]
   go_wp2_with fail
   exact ⟨⟨m,by omega,rfl,HT2.out,trivial⟩,by simp [intOf]⟩
  ·by_cases hn0:n=0
   ·subst hn0
    have HROOT:Hid (([]:List UInt8)=trimU s):=LH (by rw [← HT.out];rfl)
    clear HT hgo
    have HZ:=LH (fun W=>rres_any 1 [] W)
    have HI:=LH (fun W=>rres_any 0 [] W)
    rw [← HROOT.out] at HV
    cases hz:resB 1 [] with
    | false=>
     have HX:=LH (HV.out.trans (if_pos (.inl hz)))
     rw [hz] at HZ
     clear HV HI hz
     go_wp2_with fail
     refine (HZ.out _).mono ?_
     rintro e w1 ⟨rfl,hb1⟩
     go_wp2_with fail
     go_ret2
     rw [HX.out]
     exact ⟨rfl,hb1⟩
    | true=>
     rw [hz] at HZ HV
     clear hz
     cases hi:resB 0 [] with
     | true=>
      have HX:=LH (HV.out.trans (if_pos (.inr hi)))
      rw [hi] at HI
      clear HV hi
      go_wp2_with fail
      refine (HZ.out _).mono ?_
      rintro e w1 ⟨rfl,hb1⟩
      go_wp2_with fail
      refine (HI.out _).mono ?_
      rintro e w2 ⟨rfl,hb2⟩
      go_wp2_with fail
      go_ret2
      rw [HX.out]
      exact ⟨rfl,bthen hb1 hb2⟩
     | false=>
      rw [hi] at HI HV
      clear hi
      by_cases hl:16<=s.length
      ·have q1:(16:Int)<=(s.length:Int):=by omega
       have HX:Hid (res=([],11)):=LH (by rw [HV.out,if_neg (by simp),if_pos hl])
       clear HV hl
       go_wp2_with fail
       refine (HZ.out _).mono ?_
       rintro e w1 ⟨rfl,hb1⟩
       go_wp2_with fail
       refine (HI.out _).mono ?_
       rintro e w2 ⟨rfl,hb2⟩
       go_wp2_with fail
       go_ret2
       rw [HX.out]
       exact ⟨rfl,bthen hb1 hb2⟩
      ·have q1:decide ((16:Int)<=(s.length:Int))=false:=by simp;omega
       have q2:¬ (16:Int)<=(s.length:Int):=by omega
       have HX:Hid (res=(s++[95],0)):=LH (by rw [HV.out,if_neg (by simp),if_neg hl])
       clear HV hl
       go_wp2_with fail
       refine (HZ.out _).mono ?_
       rintro e w1 ⟨rfl,hb1⟩
       go_wp2_with fail
       refine (HI.out _).mono ?_
       rintro e w2 ⟨rfl,hb2⟩
       go_wp2_with fail
       go_ret2
       rw [HX.out]
       exact ⟨rfl,bthen hb1 hb2⟩
   ·obtain ⟨m,rfl⟩:∃ m,n=m+1:=⟨n - 1,by omega⟩
    have hm:m<s.length:=by omega
    have hne:s[m]≠95:=fun h=>hgo ⟨m,hm,rfl,h⟩
    have HROOT:Hid (s.take (m+1)=trimU s):=LH (by rw [← HT.out,List.take_succ_eq_append_getElem hm,trimU_other _ _ hne])
    have e1:IntKind.i64.wrap ((m:Int)+1 - 1)=(m:Int):=by rw [IntWalk.i64_in _ (by omega)];omega
    have e2:(m:Int)+1 - 1=(m:Int):=by omega
    have e3:(0:Int)<(m:Int)+1:=by omega
    have e4:((s[m].toNat:Int) == 95)=false:=by
     rw [beq_eq_false_iff_ne]
     intro h
     exact hne (UInt8.toNat_inj.1 (by simpa using (by omega:s[m].toNat=95)))
    rw [show ((m+1:Nat):Int)=(m:Int)+1 by omega]
    clear HT hgo hne
    have HZ:=LH (fun W=>rres_any 1 (s.take (m+1)) W)
    have HI:=LH (fun W=>rres_any 0 (s.take (m+1)) W)
    rw [← HROOT.out] at HV
    cases hz:resB 1 (s.take (m+1)) with
    | false=>
     have HX:=LH (HV.out.trans (if_pos (.inl hz)))
     rw [hz] at HZ
     clear HV HI hz
     go_wp2_with fail
     refine (HZ.out _).mono ?_
     rintro e w1 ⟨rfl,hb1⟩
     go_wp2_with fail
     go_ret2
     rw [HX.out]
     exact ⟨rfl,hb1⟩
    | true=>
     rw [hz] at HZ HV
     clear hz
     cases hi:resB 0 (s.take (m+1)) with
     | true=>
      have HX:=LH (HV.out.trans (if_pos (.inr hi)))
      rw [hi] at HI
      clear HV hi
      go_wp2_with fail
      refine (HZ.out _).mono ?_
      rintro e w1 ⟨rfl,hb1⟩
      go_wp2_with fail
      refine (HI.out _).mono ?_
      rintro e w2 ⟨rfl,hb2⟩
      go_wp2_with fail
      go_ret2
      rw [HX.out]
      exact ⟨rfl,bthen hb1 hb2⟩
     | false=>
      rw [hi] at HI HV
      clear hi
      by_cases hl:16<=s.length
      ·have q1:(16:Int)<=(s.length:Int):=by omega
       have HX:Hid (res=([],11)):=LH (by rw [HV.out,if_neg (by simp),if_pos hl])
       clear HV hl
       go_wp2_with fail
       refine (HZ.out _).mono ?_
       rintro e w1 ⟨rfl,hb1⟩
       go_wp2_with fail
       refine (HI.out _).mono ?_
       rintro e w2 ⟨rfl,hb2⟩
       go_wp2_with fail
       go_ret2
       rw [HX.out]
       exact ⟨rfl,bthen hb1 hb2⟩
      ·have q1:decide ((16:Int)<=(s.length:Int))=false:=by simp;omega
       have q2:¬ (16:Int)<=(s.length:Int):=by omega
       have HX:Hid (res=(s++[95],0)):=LH (by rw [HV.out,if_neg (by simp),if_neg hl])
       clear HV hl
       go_wp2_with fail
       refine (HZ.out _).mono ?_
       rintro e w1 ⟨rfl,hb1⟩
       go_wp2_with fail
       refine (HI.out _).mono ?_
       rintro e w2 ⟨rfl,hb2⟩
       go_wp2_with fail
       go_ret2
       rw [HX.out]
       exact ⟨rfl,bthen hb1 hb2⟩
theorem new3 (w:World) (o0 o1 o2:Obj):let W:=((w.alloc o0).alloc o1).alloc o2
  W.heap[w.heap.size]? = some o0/\W.heap[w.heap.size+1]? = some o1/\W.heap[w.heap.size+1+1]? = some o2/\Below w.heap.size w W/\W.heap.size=w.heap.size+1+1+1:=by
 have h1:(w.alloc o0).heap.size=w.heap.size+1:=by simp
 have h2:((w.alloc o0).alloc o1).heap.size=w.heap.size+1+1:=by simp
 have q0:=heap_alloc_new w o0
 have q1:=heap_alloc_new (w.alloc o0) o1
 have q2:=heap_alloc_new ((w.alloc o0).alloc o1) o2
 rw [h1] at q1
 rw [h2] at q2
 refine ⟨?_,?_,q2,((bra w _).alloc (by simp) _).alloc (by rw [h2];omega) _,by simp⟩
 ·exact (Below.heap_alloc _ _ _ (by rw [h2];omega)).trans ((Below.heap_alloc _ _ _ (by simp)).trans q0)
 ·exact (Below.heap_alloc _ _ _ (by rw [h2];omega)).trans q1
theorem right_noname {o:List UInt8} {n:Nat} {m:List UInt8} {s:List Ex} {d:Nat} (h:rightE (.mk o n m s) d=true) (ho:o≠sN):m = []:=by
 simp only [rightE,Bool.and_eq_true] at h
 have h1:=h.1.2
 unfold headE at h1
 simp only [Bool.and_eq_true] at h1
 have h2:=h1.2
 rw [if_neg ho] at h2
 simpa using h2
def RenHr (x:Ex):Prop:=∀ (d:Nat) (v:Value) (w:World),rightE x d=true->fitE x=true->SubAt w (· < w.heap.size) v x.sub->Calls Tryz.prog 59 #[exV x v] w (NamesP w (renE x))
theorem rnames_step (o:List UInt8) (n:Nat) (m:List UInt8) (s:List Ex) (ih:∀ e∈s,RenHr e):RenHr (.mk o n m s):=by
 intro dd v w hr hf hs
 obtain ⟨hs2,hrj⟩:=right_sub hr
 have hfs:fitL s=true/\m.length<=1000:=by simp only [fitE,Bool.and_eq_true,decide_eq_true_eq] at hf;exact ⟨hf.2,hf.1.2⟩
 have HFE:Hid (∀ j (hj:j<s.length),fitE s[j]=true):=LH (fitL_at s hfs.1)
 have HIH:=LH (fun j (hj:j<s.length) v w=>ih s[j] (List.getElem_mem hj) (dd - 1) v w (hrj j hj))
 have HS:=LH hs
 have HRN:=LH (fun W=>refRename_any m (by omega) W)
 have HM0:Hid (o≠sN->m = []):=LH (fun ho=>right_noname hr ho)
 have HNM:Hid (nmR o m=if o=sN then (renA m).1 else m):=LH rfl
 have HRE:=LH (renE_eq o n m s)
 have HOK:=LH (renL_ok s)
 have HBAD:=LH (renL_bad s)
 unfold exV
 simp only [Ex.op,Ex.n,Ex.name,Ex.sub] at *
 obtain ⟨A,c,rfl,hc,hm⟩:=hs.form
 unfold maxLen at hm
 generalize renE (.mk o n m s)=res at *
 generalize nmR o m=nm at *
 generalize renA m=rm at *
 obtain ⟨rm1,rk⟩:=rm
 simp only at HRN HNM HRE
 clear hs hf hfs ih hrj hr
 obtain ⟨hq0,hq1,hq2,hqb,hqz⟩:=new3 w (.cells #[Sx o,.int .u16 n,Sx m,.slice A s.length c] 34) (.cells #[Sn,.int .u16 0,Sn,Zs] 34) (.cells #[Sx o,.int .u16 n,Sn,Zs] 34)
 have B2:=LH hqb
 have O0:=LH hq0
 have O1:=LH hq1
 have O2:=LH hq2
 have HZ2:=LH hqz
 clear hq0 hq1 hq2 hqb hqz
 obtain ⟨ob,hob⟩:∃ ob,(o == sN)=ob:=⟨_,rfl⟩
 have HOB:=LH hob
 go_enter Tryz.func59, Tryz.ntmps59
 go_upto_if 17 with (fail)
 go_cut [5,6,18,19,20,21,22,23,24,25,26,27,28,29] (fun _ _ _ _ _ _ _ _ _ _ _ _ _ _ wx=>(o=sN->rk=0)/\Below w.heap.size w wx/\wx.heap[w.heap.size]? = some (.cells #[Sx o,.int .u16 n,Sx m,.slice A s.length c] 34 (0,0)) /\
  wx.heap[w.heap.size+1]? = some (.cells #[Sn,.int .u16 0,Sn,Zs] 34 (0,0))/\wx.heap[w.heap.size+1+1]? = some (.cells #[Sx o,.int .u16 n,Sx nm,Zs] 34 (0,0)))
 case first=>
  clear hob
  cases ob with
  | true=>
   have ho:o=sN:=by simpa using HOB.out
   rw [if_pos ho] at HNM
   have HO:=LH ho
   clear ho HOB
   go_wp2_with fail
   refine (HRN.out _).mono ?_
   rintro e w3 ⟨rfl,hb3⟩
   have B3:=LH (bthen B2.out hb3)
   have hz2:=HZ2.out
   have P0:=LH ((hb3.block w.heap.size (by rw [hz2];omega)).trans O0.out)
   have P1:=LH ((hb3.block (w.heap.size+1) (by rw [hz2];omega)).trans O1.out)
   have P2:=LH ((hb3.block (w.heap.size+1+1) (by rw [hz2];omega)).trans O2.out)
   clear hz2
   obtain ⟨⟨x0,x1,x2,x3⟩,f0,f1,f2,f3⟩:=four P2.out
   obtain ⟨⟨z0,z1,z2,z3⟩,g0,g1,g2,g3⟩:=four P1.out
   clear hb3
   by_cases hk:rk=0
   ·have e5:((rk:Int) != 0)=false:=by rw [bne_eq_false_iff_eq];omega
    have HK:=LH hk
    clear hk z0 z1 z2 z3
    go_wp2_with fail
    go_meet
    refine ⟨fun _=>HK.out,B3.out.setCell (by show w.heap.size<=w.heap.size+1+1;omega) _,(blk_off (by omega)).trans P0.out,(blk_off (by omega)).trans P1.out,?_⟩
    rw [HNM.out,heap_set _ P2.out]
    rfl
   ·have e5:((rk:Int) != 0)=true:=by rw [bne_iff_ne];omega
    have HX:=LH (HRE.out.trans (if_pos ⟨HO.out,hk⟩))
    clear hk
    go_wp2_with fail
    refine bodyPost_ret (v:=.tuple #[.agg #[Sn,.int .u16 0,Sn,Zs],.int .i64 rk]) (by simp [results,Tryz.results59,go_sem,z0,z1,z2,z3]) rfl ?_
    rw [HX.out]
    refine NamesP.bad rk rfl ?_
    exact ((((B3.out.setCell (Nat.le_succ _) _).setCell (Nat.le_succ _) _).setCell (Nat.le_succ _) _).setCell (Nat.le_succ _) _)
  | false=>
   have ho:o≠sN:=by simpa using HOB.out
   rw [if_neg ho] at HNM
   have HO:=LH ho
   clear ho HOB
   go_wp2_with fail
   go_meet
   exact ⟨fun h=>absurd h HO.out,B2.out,O0.out,O1.out,by have e:nm = []:=HNM.out.trans (HM0.out HO.out);rw [e];exact O2.out⟩
 case rest=>
  obtain ⟨hrk,hbc,hp0,hp1,hp2⟩:=hcut
  have HRE2:Hid (res=if (renL s).2≠0 then (ex0,(renL s).2) else (.mk o n nm (renL s).1,0)):=LH (by rw [HRE.out,if_neg (fun h=>h.2 (hrk h.1))])
  have BC:=LH hbc
  have P0:=LH hp0
  have P1:=LH hp1
  have P2:=LH hp2
  have hw0:w.heap.size+1+1<wc.heap.size:=loh hp2
  clear hrk hbc hp0 hp1 hp2 HRE HRN HNM B2 O0 O1 O2 HM0 HZ2
  go_wp2_with fail
  go_loopw [7] (fun i wr=>∃ (k:Nat) (us:List Value) (v:Value),k<=s.length/\i=.int .i64 k/\(∀ j (hj:j<s.length),j<k->(renE s[j]).2=0)/\Below w.heap.size w wr /\
   wr.heap[w.heap.size]? = some (.cells #[Sx o,.int .u16 n,Sx m,.slice A s.length c] 34 (0,0))/\wr.heap[w.heap.size+1+1]? = some (.cells #[Sx o,.int .u16 n,Sx nm,v] 34 (0,0))/\wr.heap[w.heap.size+1]? = some (.cells #[Sn,.int .u16 0,Sn,Zs] 34 (0,0)) /\
   ExOwn wr (w.heap.size+3) v ((s.take k).map (fun e=>(renE e).1)) us) (fun i _=>s.length - (intOf i).toNat)
  case atStart=>exact ⟨0,[],Zs,Nat.zero_le _,rfl,fun j _ hj=>absurd hj (by omega),BC.out,P0.out,P2.out,P1.out,OwnV.nil _ _⟩
  case round=>
   obtain ⟨k,us,v,hk,rfl,hpre,hbw,he,hx,hz,hown⟩:=hrel
   have HPRE:=LH hpre
   have HBW:=LH hbw
   have HX:=LH hx
   have HZ:=LH hz
   have HEB:=LH he
   have HOW:=LH hown
   have hw0:w.heap.size+1+1<wr.heap.size:=loh hx
   obtain ⟨⟨b0,b1,b2,b3⟩,_⟩:=four he
   have HKL:Hid (((s.take k).map (fun e=>(renE e).1)).length=k):=LH (by simp;omega)
   have hrow:=hown.2.1
   rw [HKL.out] at hrow
   obtain ⟨vA,vc,rfl,_,_,_⟩:=own_slice hrow (by omega)
   have HROW:=LH hrow
   obtain ⟨⟨x0,x1,x2,x3⟩,f0,f1,f2,f3⟩:=four hx
   obtain ⟨⟨z0,z1,z2,z3⟩,g0,g1,g2,g3⟩:=four hz
   clear hpre hbw he hx hz hown hrow
   by_cases hlt:k<s.length
   ·have i1:(k:Int)<(s.length:Int):=by omega
    obtain ⟨g,q,sv,rfl,hgl,c0,c1,c2,c3,hsub,_⟩:=HS.out.get k hlt
    have d0:=(HBW.out.cell (p:=⟨g,q+k * 4,none⟩) hgl).trans c0
    have d1:=(HBW.out.cell (p:=⟨g,q+k * 4+1,none⟩) hgl).trans c1
    have d2:=(HBW.out.cell (p:=⟨g,q+k * 4+2,none⟩) hgl).trans c2
    have d3:=(HBW.out.cell (p:=⟨g,q+k * 4+3,none⟩) hgl).trans c3
    have HC:=LH (fun W (hW:Below w.heap.size w W)=>HIH.out k hlt sv W (HFE.out k hlt) (hsub.at hW hW.size))
    obtain ⟨sA,sc,rfl,_,_⟩:=hsub.form
    have HB0:=LH (HBAD.out k hlt HPRE.out)
    have HOKE:=LH (renE_ok (HFE.out k hlt))
    unfold exV at HC
    have HT:Hid ((renE s[k]).2=0->∀ j (hj:j<s.length),j<k+1->(renE s[j]).2=0):=LH (fun h j hj hjk=>by
     by_cases e:j=k
     ·subst e;exact h
     ·exact HPRE.out j hj (by omega))
    have HTK:Hid ((s.take (k+1)).map (fun e=>(renE e).1)=(s.take k).map (fun e=>(renE e).1)++[(renE s[k]).1]):=LH (by rw [List.take_succ_eq_append_getElem hlt,List.map_append];rfl)
    generalize s[k]=y at *
    generalize renE y=ry at *
    clear c0 c1 c2 c3 hsub
    obtain ⟨r1,rk2⟩:=ry
    simp only at HB0 HT HTK HOKE
    go_wp2_with fail
    refine (HC.out _ HBW.out).mono ?_
    rintro e w5 ⟨u,rfl,hsu,hb5⟩
    obtain ⟨uA,uc,rfl,_,_⟩:=hsu.form
    have B5:=LH hb5
    have HSU:=LH hsu
    have Z5:=LH ((B5.out.block (w.heap.size+1) (by omega)).trans HZ.out)
    have X5:=LH ((B5.out.block (w.heap.size+1+1) hw0).trans HX.out)
    have E5:=LH ((B5.out.block w.heap.size (by omega)).trans HEB.out)
    have hw5:w.heap.size+1+1<w5.heap.size:=loh X5.out
    have hw51:w.heap.size+1<w5.heap.size:=by omega
    unfold exV
    clear hb5 hsu z0 z1 z2 z3 g0 g1 g2 g3 x0 x1 x2 x3 f0 f1 f2 f3 b0 b1 b2 b3
    by_cases hk0:rk2=0
    ·subst hk0
     have BE8:=LH ((B5.out.alloc B5.out.size (.cells (exCells r1 (.slice uA r1.sub.length uc)).toArray 34)).alloc (Nat.le_trans B5.out.size (by simp)) (.cells (exCells r1 (.slice uA r1.sub.length uc)).toArray 34))
     have HO8:=LH (OwnV.keep exSub_keep HOW.out BE8.out).2.1
     rw [HKL.out] at HO8
     have HN8:=LH (rd_new (w5.alloc (.cells (exCells r1 (.slice uA r1.sub.length uc)).toArray 34)) (w5.heap.size+1) (by simp) (exCells r1 (.slice uA r1.sub.length uc)) 34)
     have hb8:w.heap.size+3<=((w5.alloc (.cells (exCells r1 (.slice uA r1.sub.length uc)).toArray 34)).alloc (.cells (exCells r1 (.slice uA r1.sub.length uc)).toArray 34)).heap.size:=by simp;omega
     have X8:=LH (show ((w5.alloc (.cells (exCells r1 (.slice uA r1.sub.length uc)).toArray 34)).alloc (.cells (exCells r1 (.slice uA r1.sub.length uc)).toArray 34)).heap[w.heap.size+1+1]? = _ from ((Below.heap_alloc _ _ (w.heap.size+1+1) (by simp;omega)).trans (Below.heap_alloc _ _ (w.heap.size+1+1) (by omega))).trans X5.out)
     have E8:=LH (show ((w5.alloc (.cells (exCells r1 (.slice uA r1.sub.length uc)).toArray 34)).alloc (.cells (exCells r1 (.slice uA r1.sub.length uc)).toArray 34)).heap[w.heap.size]? = _ from ((Below.heap_alloc _ _ w.heap.size (by simp;omega)).trans (Below.heap_alloc _ _ w.heap.size (by omega))).trans E5.out)
     have Z8:=LH (show ((w5.alloc (.cells (exCells r1 (.slice uA r1.sub.length uc)).toArray 34)).alloc (.cells (exCells r1 (.slice uA r1.sub.length uc)).toArray 34)).heap[w.heap.size+1]? = _ from ((Below.heap_alloc _ _ (w.heap.size+1) (by simp;omega)).trans (Below.heap_alloc _ _ (w.heap.size+1) (by omega))).trans Z5.out)
     have HS8:=LH (show exSub ((w5.alloc (.cells (exCells r1 (.slice uA r1.sub.length uc)).toArray 34)).alloc (.cells (exCells r1 (.slice uA r1.sub.length uc)).toArray 34)) (fun g=>w.heap.size+3<=g/\g<((w5.alloc (.cells (exCells r1 (.slice uA r1.sub.length uc)).toArray 34)).alloc (.cells (exCells r1 (.slice uA r1.sub.length uc)).toArray 34)).heap.size/\(Value.slice vA k vc).ownBlock≠some g) (.slice uA r1.sub.length uc) r1 from
      SubAt.keep HSU.out (fun p hp=>((bra w5 _).alloc (by simp) _).cell hp.2) (fun g hg=>⟨by have:=hg.1;omega,by have:=hg.2;simp;omega,fun hh=>by have:=own_block_lt HROW.out g hh;have:=hg.1;omega⟩))
     have x3:=(four X5.out).1.2.2.2
     have x3a:=fun o=>new_keep (o:=o) x3
     have HT2:=LH (HT.out rfl)
     clear HB0 HT HC
     go_wp2_with (at_builtin;refine wpList_append_to _ rfl (.tmp 51) (.tmp 53) 32 rfl (w.heap.size+3) 34 _ 4 64 Tryz.underlying32 info_ex4 rfl (by omega) HO8.out rfl HN8.out rfl rfl (exCells_one r1 _ rfl) (by omega) (by omega) hb8 ?_;intro v9 w9 hown9 hbel9 hg9 hv9;obtain ⟨A9,c9,rfl,hc9,hm9,_⟩:=own_slice hown9 (by omega);have ON:=LH (OwnV.snoc exSub_keep HOW.out BE8.out HS8.out (by rw [HKL.out];exact hown9) hg9 hv9);have X9:=LH ((hbel9.block (w.heap.size+1+1) (by omega)).trans X8.out);have E9:=LH ((hbel9.block w.heap.size (by omega)).trans E8.out);have Z9:=LH ((hbel9.block (w.heap.size+1) (by omega)).trans Z8.out);have B9:=LH ((HBW.out.trans (BE8.out.mono (Nat.le_trans (by omega) HBW.out.size))).trans (hbel9.mono (by omega)));have hw9:=loh X9.out;obtain ⟨⟨q0,q1,q2,q3⟩,t0,t1,t2,t3⟩:=four X9.out;clear hown9 hbel9 hg9 hv9 x3 x3a hw5 hb8 HO8 HN8 HS8 X8 Z8 E8 BE8)
     go_roundw
     case rel=>
      refine ⟨k+1,us++[.slice uA r1.sub.length uc],_,by omega,by go_num,HT2.out,B9.out.setCell (by show w.heap.size<=w.heap.size+1+1;omega) _,(blk_off (by omega)).trans E9.out,heap_set (i:=3) _ X9.out,(blk_off (by omega)).trans Z9.out,?_⟩
      rw [HTK.out]
      exact OwnV.set exSub_keep ON.out (by omega)
     case measure=>simp [intOf];omega
    ·have e5:((rk2:Int) != 0)=true:=by rw [bne_iff_ne];omega
     have hres:=HRE2.out.trans (if_pos (by rw [HB0.out hk0];exact hk0))
     rw [HB0.out hk0] at hres
     have HX2:=LH hres
     obtain ⟨⟨z0,z1,z2,z3⟩,g0,g1,g2,g3⟩:=four Z5.out
     have BW5:=LH (bthen HBW.out B5.out)
     clear hres hk0 HRE2 HB0 HT HTK
     go_wp2_with fail
     refine bodyPost_ret (v:=.tuple #[.agg #[Sn,.int .u16 0,Sn,Zs],.int .i64 rk2]) (by simp [results,Tryz.results59,go_sem,z0,z1,z2,z3,hw51]) rfl ?_
     rw [HX2.out]
     refine NamesP.bad rk2 rfl ?_
     exact ((((BW5.out.setCell (by show w.heap.size<=w.heap.size+1;omega) _).setCell (by show w.heap.size<=w.heap.size+1;omega) _).setCell (by show w.heap.size<=w.heap.size+1;omega) _).setCell (by show w.heap.size<=w.heap.size+1;omega) _).alloc (by simpa using BW5.out.size) _
   ·obtain rfl:k=s.length:=by omega
    have HR0:=HOK.out (fun j hj=>HPRE.out j hj hj)
    have hres:=HRE2.out
    rw [HR0,if_neg (by simp)] at hres
    have HX2:=LH hres
    have HSB:=LH (OwnV.subAt HOW.out (fun e he=>by
     obtain ⟨x,hx,rfl⟩:=List.mem_map.1 he
     rw [List.take_length] at hx
     obtain ⟨j,hj,rfl⟩:=List.getElem_of_mem hx
     exact renE_ok (HFE.out j hj)))
    rw [List.take_length] at HSB
    clear hres HR0 HRE2
    go_wp2_with fail
    refine bodyPost_ret (v:=.tuple #[.agg #[Sx o,.int .u16 n,Sx nm,.slice vA s.length vc],.int .i64 0]) (by simp [results,Tryz.results59,go_sem,z0,z1,z2,z3]) rfl ?_
    rw [HX2.out]
    refine ⟨.slice vA s.length vc,rfl,?_,?_⟩
    ·exact (((HSB.out.putOff (S':=fun g=>w.heap.size+3<=g/\g<wr.heap.size) (fun g hg=>⟨by omega,hg⟩) _ _).putOff (S':=fun g=>w.heap.size+3<=g/\g<wr.heap.size) (fun g hg=>⟨by omega,hg⟩) _ _).putOff (S':=fun g=>w.heap.size+3<=g/\g<wr.heap.size) (fun g hg=>⟨by omega,hg⟩) _ _).putOff (fun g hg=>⟨by omega,by omega,by simpa using hg.2⟩) _ _
    ·exact (((HBW.out.setCell (Nat.le_succ _) _).setCell (Nat.le_succ _) _).setCell (Nat.le_succ _) _).setCell (Nat.le_succ _) _
theorem rnames_any (x:Ex):RenHr x:=Ex.ind (P:=RenHr) (fun o n m s ih=>rnames_step o n m s ih) x
def namesRw (e:Ex):Ex × Nat:=if rightE e 24 then renE e else (ex0,2)
theorem rNames_any (e:Ex) (v:Value) (w:World) (hf:fitE e=true) (hs:SubAt w (· < w.heap.size) v e.sub):Calls Tryz.prog 23 #[exV e v] w (NamesP w (namesRw e)):=by
 have HR:=LH (fun W (hW:Below w.heap.size w W)=>RRight_any e v W hf (hs.at hW hW.size))
 have HN:=LH (fun (h:rightE e 24=true) W (hW:Below w.heap.size w W)=>rnames_any e 24 v W h hf (hs.at hW hW.size))
 have HV:Hid (namesRw e=if rightE e 24 then renE e else (ex0,2)):=LH rfl
 obtain ⟨A,c,rfl,_,_⟩:=hs.form
 unfold exV at *
 generalize namesRw e=res at *
 clear hs
 have B2:=LH ((bra w (.cells #[Sx e.op,.int .u16 e.n,Sx e.name,.slice A e.sub.length c] 34)).alloc (by simp) (.cells #[Sn,.int .u16 0,Sn,Zs] 34))
 have O0:=LH ((Below.heap_alloc (w.alloc (.cells #[Sx e.op,.int .u16 e.n,Sx e.name,.slice A e.sub.length c] 34)) (.cells #[Sn,.int .u16 0,Sn,Zs] 34) w.heap.size (by simp)).trans (heap_alloc_new w (.cells #[Sx e.op,.int .u16 e.n,Sx e.name,.slice A e.sub.length c] 34)))
 have O1:=LH (heap_alloc_new (w.alloc (.cells #[Sx e.op,.int .u16 e.n,Sx e.name,.slice A e.sub.length c] 34)) (.cells #[Sn,.int .u16 0,Sn,Zs] 34))
 rw [show (w.alloc (.cells #[Sx e.op,.int .u16 e.n,Sx e.name,.slice A e.sub.length c] 34)).heap.size=w.heap.size+1 by simp] at O1
 go_enter Tryz.func23, Tryz.ntmps23
 go_wp2_with fail
 refine (HR.out _ B2.out).mono ?_
 rintro r w1 ⟨rfl,hb1⟩
 have B1:=LH (bthen B2.out hb1)
 have P0:=LH ((hb1.block w.heap.size (by simp;omega)).trans O0.out)
 have P1:=LH ((hb1.block (w.heap.size+1) (by simp)).trans O1.out)
 obtain ⟨⟨x0,x1,x2,x3⟩,f0,f1,f2,f3⟩:=four P0.out
 obtain ⟨⟨z0,z1,z2,z3⟩,g0,g1,g2,g3⟩:=four P1.out
 clear hb1 HR B2 O0 O1
 cases hr:rightE e 24 with
 | false=>
  have HX:=LH (HV.out.trans (by first | (rw [hr];done) | (rw [hr];rfl)))
  simp only [Bool.false_eq_true,if_false]
  clear HV HN hr
  go_wp2_with fail
  refine bodyPost_ret (v:=.tuple #[.agg #[Sn,.int .u16 0,Sn,Zs],.int .i64 2]) (by simp [results,Tryz.results23,go_sem,z0,z1,z2,z3]) rfl ?_
  rw [HX.out]
  exact NamesP.bad 2 rfl ((((B1.out.setCell (Nat.le_succ _) _).setCell (Nat.le_succ _) _).setCell (Nat.le_succ _) _).setCell (Nat.le_succ _) _)
 | true=>
  have HX:=LH (HV.out.trans (by first | (rw [hr];done) | (rw [hr];rfl)))
  have HN1:=LH (HN.out hr _ B1.out)
  simp only [if_true]
  clear HV HN hr
  generalize renE e=ne at *
  obtain ⟨e1,k1⟩:=ne
  go_wp2_with fail
  refine HN1.out.mono ?_
  rintro r w2 ⟨u,rfl,hsu,hb2⟩
  simp only at hsu ⊢
  obtain ⟨uA,uc,rfl,_,_⟩:=hsu.form
  unfold exV
  have B3:=LH (bthen B1.out hb2)
  have P12:=LH ((hb2.block (w.heap.size+1) (loh P1.out)).trans P1.out)
  have hz1:=B1.out.size
  have hz2:w.heap.size+1<w1.heap.size:=loh P1.out
  have HSU:=LH hsu
  clear hb2 hsu HN1 x0 x1 x2 x3 f0 f1 f2 f3 z0 z1 z2 z3 g0 g1 g2 g3
  obtain ⟨⟨z0,z1,z2,z3⟩,g0,g1,g2,g3⟩:=four P12.out
  go_wp2_with fail
  refine bodyPost_ret (v:=.tuple #[.agg #[Sx e1.op,.int .u16 e1.n,Sx e1.name,.slice uA e1.sub.length uc],.int .i64 k1]) (by simp [results,Tryz.results23,go_sem,z0,z1,z2,z3]) rfl ?_
  rw [HX.out]
  refine ⟨.slice uA e1.sub.length uc,rfl,?_,(((B3.out.setCell (Nat.le_succ _) _).setCell (Nat.le_succ _) _).setCell (Nat.le_succ _) _).setCell (Nat.le_succ _) _⟩
  exact (((HSU.out.putOff (S':=fun g=>w1.heap.size<=g/\g<w2.heap.size) (fun g hg=>⟨by omega,hg⟩) _ _).putOff (S':=fun g=>w1.heap.size<=g/\g<w2.heap.size) (fun g hg=>⟨by omega,hg⟩) _ _).putOff (S':=fun g=>w1.heap.size<=g/\g<w2.heap.size) (fun g hg=>⟨by omega,hg⟩) _ _).putOff (fun g hg=>⟨by omega,by omega,by simpa using hg.2⟩) _ _
end Go.Proofs.YtijgppokofganaaGreatDoor
