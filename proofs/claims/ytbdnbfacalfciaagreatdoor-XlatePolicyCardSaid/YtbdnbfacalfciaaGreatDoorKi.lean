/- Ki. -/
import Derived.Test.YtbdnbfacalfciaaGreatDoorKe
import Derived.Test.YtbdnbfacalfciaaGreatDoorKb
namespace Go.Proofs.YtbdnbfacalfciaaGreatDoor
set_option maxHeartbeats 4000000
open Go.RowKit
def SameH (x:Ex):Prop:=∀ (y:Ex) (v u:Value) (w:World),SubAt w (· < w.heap.size) v x.sub->SubAt w (· < w.heap.size) u y.sub ->
 Calls Tryz.prog 143 #[.agg #[.string ⟨x.op.toArray⟩,.int .u16 x.n,.string ⟨x.name.toArray⟩,v],.agg #[.string ⟨y.op.toArray⟩,.int .u16 y.n,.string ⟨y.name.toArray⟩,u]] w fun e w'=>e=.returned (.bool (sameE x y))/\Below w.heap.size w w'
theorem sameL_len (s t:List Ex) (h:s.length≠t.length):sameL s t=false:=by
 cases hh:sameL s t with
 | false=>rfl
 | true=>
  have:=(sameL_iff s (fun e _=>sameE_iff e) t).1 hh
  exact absurd (by rw [this]) h
theorem sameL_at (s t:List Ex) (k:Nat) (hs:k<s.length) (ht:k<t.length) (h:sameE s[k] t[k]=false):sameL s t=false:=by
 cases hh:sameL s t with
 | false=>rfl
 | true=>
  have:=(sameL_iff s (fun e _=>sameE_iff e) t).1 hh
  subst this
  rw [sameE_refl] at h
  cases h
theorem sameL_end (s t:List Ex) (hl:s.length=t.length) (h:s.take s.length=t.take s.length):sameL s t=true:=by
 rw [List.take_length] at h
 rw [hl,List.take_length] at h
 subst h
 exact (sameL_iff s (fun e _=>sameE_iff e) s).2 rfl
set_option maxRecDepth 100000 in
theorem eqf_any (s t:List Ex) (hR:∀ x∈s,SameH x) (v u:Value) (w:World) (hs:SubAt w (· < w.heap.size) v s) (ht:SubAt w (· < w.heap.size) u t) :
  Calls Tryz.prog 190 #[v,u,.func (.func 143) #[] #[]] w fun e w'=>e=.returned (.bool (sameL s t))/\Below w.heap.size w w':=by
 obtain ⟨A,c,rfl,hc,hm⟩:=hs.form
 obtain ⟨A',c',rfl,hc',hm'⟩:=ht.form
 unfold maxLen at hm hm'
 have HS:=LH hs
 have HT:=LH ht
 have HR:=LH hR
 clear hs ht hR
 by_cases hl:s.length=t.length
 ·have HEND:=LH (sameL_end s t hl)
  have HAT:=LH (fun k hk hk'=>sameL_at s t k hk hk')
  have HL:=LH hl
  have hne:((s.length:Int) != (t.length:Int))=false:=by rw [hl];simp
  generalize sameL s t=res at *
  clear hl
  go_enter Tryz.func190, Tryz.ntmps190
  go_wp2_with fail
  go_loopw [17] (fun i wr=>∃ k:Nat,k<=s.length/\i=.int .i64 k/\s.take k=t.take k/\Below w.heap.size w wr) (fun i _=>s.length - (intOf i).toNat)
  case atStart=>exact ⟨0,Nat.zero_le _,rfl,rfl,Below.refl _ _⟩
  case round=>
   obtain ⟨k,hk,rfl,heq,hb⟩:=hrel
   have hsz:=hb.size
   have HE:=LH heq
   clear heq
   by_cases hlt:k<s.length
   ·have hlt2:k<t.length:=by have:=HL.out;omega
    obtain ⟨g,q,vk,rfl,hg,c0,c1,c2,c3,hsub,hn,_,_⟩:=HS.out.get k hlt
    obtain ⟨vA,vc,rfl,_,_⟩:=hsub.form
    obtain ⟨g',q',vk',rfl,hg',c0',c1',c2',c3',hsub',hn',_,_⟩:=HT.out.get k hlt2
    obtain ⟨vA',vc',rfl,_,_⟩:=hsub'.form
    have d0:=(hb.cell (p:=⟨g,q+k * 4,none⟩) hg).trans c0
    have d1:=(hb.cell (p:=⟨g,q+k * 4+1,none⟩) hg).trans c1
    have d2:=(hb.cell (p:=⟨g,q+k * 4+2,none⟩) hg).trans c2
    have d3:=(hb.cell (p:=⟨g,q+k * 4+3,none⟩) hg).trans c3
    have d0':=(hb.cell (p:=⟨g',q'+k * 4,none⟩) hg').trans c0'
    have d1':=(hb.cell (p:=⟨g',q'+k * 4+1,none⟩) hg').trans c1'
    have d2':=(hb.cell (p:=⟨g',q'+k * 4+2,none⟩) hg').trans c2'
    have d3':=(hb.cell (p:=⟨g',q'+k * 4+3,none⟩) hg').trans c3'
    have hgr:g<wr.heap.size:=Nat.lt_of_lt_of_le hg hsz
    have hgr':g'<wr.heap.size:=Nat.lt_of_lt_of_le hg' hsz
    have HSK:=LH ((hsub.bel hb).more (S':=(· < wr.heap.size)) (fun x hx=>Nat.lt_of_lt_of_le hx hsz))
    have HSK':=LH ((hsub'.bel hb).more (S':=(· < wr.heap.size)) (fun x hx=>Nat.lt_of_lt_of_le hx hsz))
    have HC:Hid (∀ o1 o2,Calls Tryz.prog 143 #[.agg #[.string ⟨s[k].op.toArray⟩,.int .u16 s[k].n,.string ⟨s[k].name.toArray⟩,.slice vA s[k].sub.length vc],.agg #[.string ⟨t[k].op.toArray⟩,.int .u16 t[k].n,.string ⟨t[k].name.toArray⟩,.slice vA' t[k].sub.length vc']] ((wr.alloc o1).alloc o2) fun e w'=>e=.returned (.bool (sameE s[k] t[k]))/\Below ((wr.alloc o1).alloc o2).heap.size ((wr.alloc o1).alloc o2) w'):=LH (fun o1 o2=>HR.out s[k] (List.getElem_mem hlt) t[k] _ _ _ (HSK.out.keep (fun p hp=>by rw [World.cell?_alloc_lt _ _ _ (by simp;omega),World.cell?_alloc_lt _ _ _ hp]) (fun x hx=>by simp;omega)) (HSK'.out.keep (fun p hp=>by rw [World.cell?_alloc_lt _ _ _ (by simp;omega),World.cell?_alloc_lt _ _ _ hp]) (fun x hx=>by simp;omega)))
    have HF:=LH (HAT.out k hlt hlt2)
    have HT2:Hid (sameE s[k] t[k]=true->s.take (k+1)=t.take (k+1)):=LH (fun h=>by rw [List.take_succ_eq_append_getElem hlt,List.take_succ_eq_append_getElem hlt2,HE.out,(sameE_iff _ _).1 h])
    generalize s[k]=x at *
    generalize t[k]=y at *
    clear c0 c1 c2 c3 c0' c1' c2' c3' hsub hsub' HAT
    cases hxy:sameE x y with
    | true=>
     have HT3:=LH (HT2.out hxy)
     rw [hxy] at HC
     clear hxy HT2 HF
     go_wp2_with fail
     refine (HC.out _ _).mono ?_
     rintro e0 w5 ⟨rfl,hb5⟩
     have hb6:Below w.heap.size w w5:=((hb.alloc hsz _).alloc (by simp;omega) _).trans (hb5.mono (by simp;omega))
     go_wp2_with fail
     go_roundw
     case rel=>exact ⟨k+1,by omega,by go_num,HT3.out,hb6⟩
     case measure=>simp [intOf];omega
    | false=>
     have hres:=HF.out hxy
     subst hres
     rw [hxy] at HC
     clear hxy HT2 HF
     go_wp2_with fail
     refine (HC.out _ _).mono ?_
     rintro e0 w5 ⟨rfl,hb5⟩
     have hb6:Below w.heap.size w w5:=((hb.alloc hsz _).alloc (by simp;omega) _).trans (hb5.mono (by simp;omega))
     go_wp2_with fail
     go_ret
     exact ⟨rfl,hb6⟩
   ·obtain rfl:k=s.length:=by omega
    have hres:=HEND.out HE.out
    subst hres
    go_wp2_with fail
    go_ret
    exact ⟨rfl,hb⟩
 ·have hres:=sameL_len s t hl
  have hne:((s.length:Int) != (t.length:Int))=true:=by rw [bne_iff_ne];omega
  rw [hres]
  clear hres HS HT hl
  generalize s.length=n at *
  generalize t.length=n' at *
  go_enter Tryz.func190, Tryz.ntmps190
  go_wp2_with fail
  go_ret
  exact ⟨rfl,Below.refl _ _⟩
theorem sameE_mk (o:List UInt8) (n:Nat) (m:List UInt8) (s:List Ex) (y:Ex):sameE (.mk o n m s) y=(o == y.op && n == y.n && m == y.name && sameL s y.sub):=by
 cases y
 simp [sameE,Ex.op,Ex.n,Ex.name,Ex.sub]
theorem Same_any (x:Ex):SameH x:=by
 induction x using Ex.ind with
 | h o n m s ih=>
  intro y v u w hs ht
  have HQ:Hid (∀ W,Below w.heap.size w W->Calls Tryz.prog 190 #[v,u,.func (.func 143) #[] #[]] W fun e w'=>e=.returned (.bool (sameL s y.sub))/\Below W.heap.size W w'):=
   LH (fun W hW=>eqf_any s y.sub ih v u W ((hs.bel hW).more (fun x hx=>Nat.lt_of_lt_of_le hx hW.size)) ((ht.bel hW).more (fun x hx=>Nat.lt_of_lt_of_le hx hW.size)))
  have HR:=LH (sameE_mk o n m s y)
  generalize sameE (.mk o n m s) y=res at *
  obtain ⟨A,c,rfl,hc,hm⟩:=hs.form
  obtain ⟨A',c',rfl,hc',hm'⟩:=ht.form
  clear hs ht ih
  generalize sameL s y.sub=rs at *
  obtain ⟨yo,yn,ym,ys⟩:=y
  simp only [Ex.op,Ex.n,Ex.name,Ex.sub] at *
  generalize s.length=sl at *
  generalize ys.length=yl at *
  by_cases h1:o=yo
  ·subst h1
   by_cases h2:n=yn
   ·subst h2
    by_cases h3:m=ym
    ·subst h3
     have HR':Hid (res=rs):=LH (by rw [HR.out];simp)
     go_enter Tryz.func143, Tryz.ntmps143
     go_wp2_with fail
     refine (HQ.out _ (((Below.refl _ _).alloc (Nat.le_refl _) _).alloc (by simp) _)).mono ?_
     rintro e w1 ⟨rfl,hb1⟩
     go_wp2_with fail
     go_ret
     rw [HR'.out]
     exact ⟨rfl,(((Below.refl _ _).alloc (Nat.le_refl _) _).alloc (by simp) _).trans (hb1.mono (by simp;omega))⟩
    ·have d3:(m == ym)=false:=by simpa using h3
     have HR':Hid (res=false):=LH (by rw [HR.out,d3];simp)
     go_enter Tryz.func143, Tryz.ntmps143
     go_wp2_with fail
     go_ret
     rw [HR'.out]
     exact ⟨rfl,((Below.refl _ _).alloc (Nat.le_refl _) _).alloc (by simp) _⟩
   ·have d2:((n:Int) == (yn:Int))=false:=by rw [beq_eq_false_iff_ne];omega
    have d2':(n == yn)=false:=by rw [beq_eq_false_iff_ne];omega
    have HR':Hid (res=false):=LH (by rw [HR.out,d2'];simp)
    clear d2'
    go_enter Tryz.func143, Tryz.ntmps143
    go_wp2_with fail
    go_ret
    rw [HR'.out]
    exact ⟨rfl,((Below.refl _ _).alloc (Nat.le_refl _) _).alloc (by simp) _⟩
  ·have d1:(o == yo)=false:=by simpa using h1
   have HR':Hid (res=false):=LH (by rw [HR.out,d1];simp)
   go_enter Tryz.func143, Tryz.ntmps143
   go_wp2_with fail
   go_ret
   rw [HR'.out]
   exact ⟨rfl,((Below.refl _ _).alloc (Nat.le_refl _) _).alloc (by simp) _⟩
end Go.Proofs.YtbdnbfacalfciaaGreatDoor
