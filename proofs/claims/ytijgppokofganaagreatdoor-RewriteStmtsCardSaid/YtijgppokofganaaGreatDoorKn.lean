/- Kn. -/
import Derived.Test.YtijgppokofganaaGreatDoorKm
import Derived.Test.YtijgppokofganaaGreatDoorKi
import Derived.Test.YtijgppokofganaaGreatDoorKg
import Derived.Test.YtijgppokofganaaGreatDoorKa
import Derived.Test.YtijgppokofganaaGreatDoorLaw5a
import Derived.StillTailTactics
namespace Go.Proofs.YtijgppokofganaaGreatDoor
set_option maxRecDepth 100000
set_option maxHeartbeats 4000000
open Go.RowKit
abbrev arV (a:Ar) (v:Value):Value:=.agg #[.string ⟨a.w.toArray⟩,.string ⟨a.t.toArray⟩,.bool a.is,.bool a.mem,.string ⟨a.e.op.toArray⟩,.int .u16 a.e.n,.string ⟨a.e.name.toArray⟩,v]
def arCells (a:Ar) (v:Value):List Value:=[.string ⟨a.w.toArray⟩,.string ⟨a.t.toArray⟩,.bool a.is,.bool a.mem,.string ⟨a.e.op.toArray⟩,.int .u16 a.e.n,.string ⟨a.e.name.toArray⟩,v]
theorem SubAt.at {w w':World} {B B':Nat} {v:Value} {s:List Ex} (h:SubAt w (· < B) v s) (hb:Below B w w') (hB:B<=B'):SubAt w' (· < B') v s:=(h.bel hb).more (fun x (hx:x<B)=>Nat.lt_of_lt_of_le hx hB)
def ArAt (w:World) (S:Nat->Prop) (v:Value) (l:List Ar):Prop:=∃ (A:Option Addr) (c:Nat) (vs:Nat->Value),v=.slice A l.length c/\l.length<=c/\l.length<=maxLen /\
 (0<l.length->∃ g o,A=some ⟨g,o,none⟩/\S g/\∀ i (hi:i<l.length),∀ j u,(arCells l[i] (vs i))[j]? = some u->w.cell? ⟨g,o+i * 8+j,none⟩=some u) /\
 ∀ i (hi:i<l.length),SubAt w S (vs i) l[i].e.sub
theorem ArAt.keep {w w':World} {S S':Nat->Prop} {v:Value} {l:List Ar} (h:ArAt w S v l) (hk:∀ p:Addr,S p.block->w'.cell? p=w.cell? p) (hS:∀ g,S g->S' g):ArAt w' S' v l:=by
 obtain ⟨A,c,vs,h1,h2,h3,h4,h5⟩:=h
 refine ⟨A,c,vs,h1,h2,h3,fun h0=>?_,fun i hi=>(h5 i hi).keep hk hS⟩
 obtain ⟨g,o,g1,g2,g3⟩:=h4 h0
 exact ⟨g,o,g1,hS g g2,fun i hi j u hu=>(hk _ g2).trans (g3 i hi j u hu)⟩
theorem ArAt.nil (w:World) (S:Nat->Prop):ArAt w S (.slice none 0 0) []:=
 ⟨none,0,fun _=>Zs,rfl,Nat.le_refl _,by unfold maxLen;simp,fun h=>absurd h (by simp),fun i hi=>absurd hi (by simp)⟩
theorem ArAt.form {w:World} {S:Nat->Prop} {v:Value} {l:List Ar} (h:ArAt w S v l):∃ A c,v=.slice A l.length c/\l.length<=c/\l.length<=maxLen:=by
 obtain ⟨A,c,vs,h1,h2,h3,h4,h5⟩:=h
 exact ⟨A,c,h1,h2,h3⟩
theorem ArAt.at {w w':World} {B B':Nat} {v:Value} {l:List Ar} (h:ArAt w (· < B) v l) (hb:Below B w w') (hB:B<=B'):ArAt w' (· < B') v l:=h.keep (fun _ hp=>hb.cell hp) (fun x (hx:x<B)=>Nat.lt_of_lt_of_le hx hB)
theorem ArAt.get {w:World} {S:Nat->Prop} {A:Option Addr} {c:Nat} {l:List Ar} (h:ArAt w S (.slice A l.length c) l) (i:Nat) (hi:i<l.length) :
  ∃ g o v,A=some ⟨g,o,none⟩/\S g/\w.cell? ⟨g,o+i * 8,none⟩=some (.string ⟨l[i].w.toArray⟩)/\w.cell? ⟨g,o+i * 8+1,none⟩=some (.string ⟨l[i].t.toArray⟩)/\w.cell? ⟨g,o+i * 8+2,none⟩=some (.bool l[i].is)/\w.cell? ⟨g,o+i * 8+3,none⟩=some (.bool l[i].mem)/\w.cell? ⟨g,o+i * 8+4,none⟩=some (.string ⟨l[i].e.op.toArray⟩)/\w.cell? ⟨g,o+i * 8+5,none⟩=some (.int .u16 l[i].e.n)/\w.cell? ⟨g,o+i * 8+6,none⟩=some (.string ⟨l[i].e.name.toArray⟩)/\w.cell? ⟨g,o+i * 8+7,none⟩=some v/\SubAt w S v l[i].e.sub:=by
 obtain ⟨A',c',vs,h1,h2,h3,h4,h5⟩:=h
 injection h1 with h1 _ _
 subst h1
 obtain ⟨g,o,g1,g2,g3⟩:=h4 (by omega)
 have g:=g3 i hi
 exact ⟨_,o,vs i,g1,g2,g 0 _ rfl,g 1 _ rfl,g 2 _ rfl,g 3 _ rfl,g 4 _ rfl,g 5 _ rfl,g 6 _ rfl,g 7 _ rfl,h5 i hi⟩
abbrev stV (s:St) (v:Value):Value:=.agg #[.string ⟨s.label.toArray⟩,.bool s.colon,.string ⟨s.op.toArray⟩,v]
def arSub (w:World) (S:Nat->Prop) (v:Value) (a:Ar):Prop:=SubAt w S v a.e.sub
theorem arSub_keep:∀ (w w':World) (S S':Nat->Prop) (v:Value) (a:Ar),arSub w S v a->(∀ p:Addr,S p.block->w'.cell? p=w.cell? p)->(∀ g,S g->S' g)->arSub w' S' v a:=fun _ _ _ _ _ _ h hk hS=>SubAt.keep h hk hS
theorem arCells_len (a:Ar) (v:Value):(arCells a v).length=8:=rfl
theorem arCells_one (a:Ar) (v:Value) (h:v.oneCell'=true):∀ u∈arCells a v,u.oneCell'=true:=by
 intro u hu
 simp [arCells] at hu
 rcases hu with rfl | rfl | rfl | rfl | rfl | rfl | rfl | rfl <;> first | rfl | exact h
abbrev ArOwn (w:World) (base:Nat) (v:Value) (l:List Ar) (vs:List Value):Prop:=OwnV arCells arSub 36 8 w base v l vs
theorem own_slice {w:World} {base size n:Nat} {e:TypeId} {v:Value} {xs:List Value} (h:w.ownsRow base e size v n xs) (_:0<size) :
  ∃ A c,v=.slice A n c/\n<=c/\n<=maxLen/\(0<n->∃ g,A=some ⟨g,0,none⟩/\base<=g/\g<w.heap.size/\v.ownBlock=some g/\∀ j u,xs[j]? = some u->w.cell? ⟨g,j,none⟩=some u):=by
 rcases h.2 with ⟨rfl,rfl⟩ | ⟨g,cap,cur,rfl,hb,hg,h1,h2,h3,h4⟩
 ·exact ⟨none,0,rfl,Nat.le_refl _,Nat.zero_le _,fun h=>absurd h (by omega)⟩
 ·refine ⟨_,cap,rfl,h1,Nat.le_trans h1 h2,fun _=>⟨g,rfl,hb,loh hg,rfl,fun j u hu=>?_⟩⟩
  rw [coh hg]
  rw [← h4] at hu
  rw [List.getElem?_take] at hu
  split at hu
  ·simpa using hu
  ·simp at hu
theorem OwnV.arAt {w:World} {base:Nat} {v:Value} {l:List Ar} {vs:List Value} (h:ArOwn w base v l vs):ArAt w (fun g=>base<=g/\g<w.heap.size) v l:=by
 obtain ⟨h1,h2,h3⟩:=h
 obtain ⟨A,c,rfl,hc,hm,hrow⟩:=own_slice h2 (by omega)
 refine ⟨A,c,fun i=>vs.getD i (Zs),rfl,hc,hm,fun h0=>?_,fun i hi=>SubAt.more (h3 i hi) (fun g hg=>⟨hg.1,hg.2.1⟩)⟩
 obtain ⟨g,rfl,g1,g2,_,g3⟩:=hrow h0
 refine ⟨g,0,rfl,⟨g1,g2⟩,fun i hi j u hu=>?_⟩
 rw [Nat.zero_add]
 exact g3 _ _ (rowV_get arCells_len l vs h1 i hi j u hu)
def RSameH (x:Ex):Prop:=∀ (y:Ex) (v u:Value) (w:World),SubAt w (· < w.heap.size) v x.sub->SubAt w (· < w.heap.size) u y.sub ->
 Calls Tryz.prog 65 #[.agg #[.string ⟨x.op.toArray⟩,.int .u16 x.n,.string ⟨x.name.toArray⟩,v],.agg #[.string ⟨y.op.toArray⟩,.int .u16 y.n,.string ⟨y.name.toArray⟩,u]] w fun e w'=>e=.returned (.bool (sameE x y))/\Below w.heap.size w w'
theorem box2_at {w wr:World} {o:Obj} {cs:Array Value} {T:TypeId} (hb:Below (w.heap.size+2) ((w.alloc o).alloc (.cells cs T)) wr) (i:Nat) (u:Value) (hu:cs[i]? = some u):wr.cell? ⟨w.heap.size+1,i,none⟩=some u:=by
 have h:=heap_alloc_new (w.alloc o) (.cells cs T)
 rw [World.size_alloc] at h
 rw [hb.cell (p:=⟨w.heap.size+1,i,none⟩) (by simp),coh h]
 exact hu
theorem box1_at {w wr:World} {o:Obj} {cs:Array Value} {T:TypeId} (hb:Below (w.heap.size+2) ((w.alloc (.cells cs T)).alloc o) wr) (i:Nat) (u:Value) (hu:cs[i]? = some u):wr.cell? ⟨w.heap.size,i,none⟩=some u:=by
 rw [hb.cell (p:=⟨w.heap.size,i,none⟩) (by simp),World.cell?_alloc_lt _ _ _ (by simp),coh (heap_alloc_new w _)]
 exact hu
theorem refSame_any (x:Ex):RSameH x:=by
 induction x using Ex.ind with
 | h o n m s ih=>
  intro y v u w hs ht
  have HR:=sameE_mk o n m s y
  obtain ⟨A,c,rfl,hc,hm⟩:=hs.form
  obtain ⟨A',c',rfl,hc',hm'⟩:=ht.form
  unfold maxLen at hm hm'
  have HS:=LH hs
  have HT:=LH ht
  have HI:=LH ih
  have HR':=LH HR
  clear hs ht ih HR
  generalize sameE (.mk o n m s) y=res at *
  obtain ⟨yo,yn,ym,t⟩:=y
  simp only [Ex.op,Ex.n,Ex.name,Ex.sub] at *
  by_cases h1:o=yo
  ·subst h1
   by_cases h2:n=yn
   ·subst h2
    by_cases h3:m=ym
    ·subst h3
     have HR2:Hid (res=sameL s t):=LH (by rw [HR'.out];simp)
     clear HR'
     by_cases hl:s.length=t.length
     ·have hne:((s.length:Int) == (t.length:Int))=true:=by rw [hl];simp
      have hne2:((s.length:Int) != (t.length:Int))=false:=by rw [hl];simp
      have HL:=LH hl
      have HEND:Hid (s.take s.length=t.take s.length->res=true):=LH (fun h=>by rw [HR2.out];exact sameL_end s t hl h)
      clear hl
      go_enter Tryz.func65, Tryz.ntmps65
      go_wp2_with fail
      go_loopw [5] (fun i wr=>∃ k:Nat,k<=s.length/\i=.int .i64 k/\s.take k=t.take k/\Below (w.heap.size+2) ((w.alloc (.cells #[Sx o,.int .u16 n,Sx m,.slice A s.length c] 34)).alloc (.cells #[Sx o,.int .u16 n,Sx m,.slice A' t.length c'] 34)) wr) (fun i _=>s.length - (intOf i).toNat)
      case atStart=>exact ⟨0,Nat.zero_le _,rfl,rfl,Below.refl _ _⟩
      case round=>
       obtain ⟨k,hk,rfl,heq,hb⟩:=hrel
       have hz:w.heap.size+1<wr.heap.size:=by have:=hb.size;simp at this;omega
       have hz0:w.heap.size<wr.heap.size:=by omega
       have e3:=box1_at hb 3 _ rfl
       have f3:=box2_at hb 3 _ rfl
       have hbw:Below w.heap.size w wr:=((bra _ _).alloc (by simp) _).trans (hb.mono (by omega))
       have HE:=LH heq
       have HB:=LH hb
       clear heq hb
       by_cases hlt:k<s.length
       ·have hlt2:k<t.length:=by have:=HL.out;omega
        obtain ⟨g,q,vk,rfl,hg,c0,c1,c2,c3,hsub,hn,_,_⟩:=HS.out.get k hlt
        obtain ⟨vA,vc,rfl,_,_⟩:=hsub.form
        obtain ⟨g',q',vk',rfl,hg',c0',c1',c2',c3',hsub',hn',_,_⟩:=HT.out.get k hlt2
        obtain ⟨vA',vc',rfl,_,_⟩:=hsub'.form
        have d0:=(hbw.cell (p:=⟨g,q+k * 4,none⟩) hg).trans c0
        have d1:=(hbw.cell (p:=⟨g,q+k * 4+1,none⟩) hg).trans c1
        have d2:=(hbw.cell (p:=⟨g,q+k * 4+2,none⟩) hg).trans c2
        have d3:=(hbw.cell (p:=⟨g,q+k * 4+3,none⟩) hg).trans c3
        have d0':=(hbw.cell (p:=⟨g',q'+k * 4,none⟩) hg').trans c0'
        have d1':=(hbw.cell (p:=⟨g',q'+k * 4+1,none⟩) hg').trans c1'
        have d2':=(hbw.cell (p:=⟨g',q'+k * 4+2,none⟩) hg').trans c2'
        have d3':=(hbw.cell (p:=⟨g',q'+k * 4+3,none⟩) hg').trans c3'
        have HC:=LH (HI.out s[k] (List.getElem_mem hlt) t[k] _ _ wr.drew (((hsub.bel hbw).more (S':=(· < wr.heap.size)) (fun x hx=>Nat.lt_of_lt_of_le hx hbw.size)).keep (w':=wr.drew) (fun p _=>rfl) (fun _ h=>h)) (((hsub'.bel hbw).more (S':=(· < wr.heap.size)) (fun x hx=>Nat.lt_of_lt_of_le hx hbw.size)).keep (w':=wr.drew) (fun p _=>rfl) (fun _ h=>h)))
        have HF:Hid (sameE s[k] t[k]=false->res=false):=LH (fun h=>by rw [HR2.out];exact sameL_at s t k hlt hlt2 h)
        have HT2:Hid (sameE s[k] t[k]=true->s.take (k+1)=t.take (k+1)):=LH (fun h=>by rw [List.take_succ_eq_append_getElem hlt,List.take_succ_eq_append_getElem hlt2,HE.out,(sameE_iff _ _).1 h])
        generalize s[k]=x at *
        generalize t[k]=y at *
        have HBW:=LH hbw
        clear c0 c1 c2 c3 c0' c1' c2' c3' hsub hsub' hbw
        cases hxy:sameE x y with
        | true=>
         have HT3:=LH (HT2.out hxy)
         rw [hxy] at HC
         clear hxy HT2 HF
         go_wp2_with fail
         go_still_tail 10,(by kernel_rfl)
         change wpList _ _ _ _ _ wr.drew
         go_wp2_with fail
         refine HC.out.mono ?_
         rintro e0 w5 ⟨rfl,hb5⟩
         go_wp2_with fail
         go_roundw
         case rel=>exact ⟨k+1,by omega,by go_num,HT3.out,HB.out.drew.trans (hb5.mono hz)⟩
         case measure=>simp [intOf];omega
        | false=>
         have hres:=HF.out hxy
         subst hres
         rw [hxy] at HC
         clear hxy HT2 HF
         go_wp2_with fail
         go_still_tail 10,(by kernel_rfl)
         change wpList _ _ _ _ _ wr.drew
         go_wp2_with fail
         refine HC.out.mono ?_
         rintro e0 w5 ⟨rfl,hb5⟩
         go_wp2_with fail
         go_ret
         exact ⟨rfl,HBW.out.drew.trans (hb5.mono (Nat.le_of_lt hz0))⟩
       ·obtain rfl:k=s.length:=by omega
        have hres:=HEND.out HE.out
        subst hres
        have HBW:=LH hbw
        clear hbw
        go_wp2_with fail
        go_ret
        exact ⟨rfl,HBW.out⟩
     ·have hres:res=false:=by rw [HR2.out];exact sameL_len s t hl
      have hne:((s.length:Int) == (t.length:Int))=false:=by rw [beq_eq_false_iff_ne];omega
      have hne2:((s.length:Int) != (t.length:Int))=true:=by rw [bne_iff_ne];omega
      subst hres
      clear HS HT hl HR2 HI
      generalize s.length=l1 at *
      generalize t.length=l2 at *
      go_enter Tryz.func65, Tryz.ntmps65
      go_wp2_with fail
      go_ret
      exact ⟨rfl,(bra _ _).alloc (by simp) _⟩
    ·have d3:(m == ym)=false:=by simpa using h3
     have HR2:Hid (res=false):=LH (by rw [HR'.out,d3];simp)
     go_enter Tryz.func65, Tryz.ntmps65
     go_wp2_with fail
     go_ret
     rw [HR2.out]
     exact ⟨rfl,(bra _ _).alloc (by simp) _⟩
   ·have d2:((n:Int) == (yn:Int))=false:=by rw [beq_eq_false_iff_ne];omega
    have d2':(n == yn)=false:=by rw [beq_eq_false_iff_ne];omega
    have HR2:Hid (res=false):=LH (by rw [HR'.out,d2'];simp)
    clear d2'
    go_enter Tryz.func65, Tryz.ntmps65
    go_wp2_with fail
    go_ret
    rw [HR2.out]
    exact ⟨rfl,(bra _ _).alloc (by simp) _⟩
  ·have d1:(o == yo)=false:=by simpa using h1
   have HR2:Hid (res=false):=LH (by rw [HR'.out,d1];simp)
   go_enter Tryz.func65, Tryz.ntmps65
   go_wp2_with fail
   go_ret
   rw [HR2.out]
   exact ⟨rfl,(bra _ _).alloc (by simp) _⟩
theorem refArg_eq (a:Ar) (v u:Value) (w:World) (hs:SubAt w (· < w.heap.size) v a.e.sub) (ht:SubAt w (· < w.heap.size) u a.e.sub) :
  Calls Tryz.prog 29 #[arV a v,arV a u] w fun e w'=>e=.returned (.bool true)/\Below w.heap.size w w':=by
 have HQ:=LH (fun W (hW:Below w.heap.size w W)=>refSame_any a.e a.e v u W (hs.at hW hW.size) (ht.at hW hW.size))
 rw [(sameE_iff _ _).2 rfl] at HQ
 obtain ⟨A,c,rfl,hc,hm⟩:=hs.form
 obtain ⟨A',c',rfl,hc',hm'⟩:=ht.form
 clear hs ht hc hm hc' hm'
 obtain ⟨aw,at1,ais,amem,ae⟩:=a
 unfold arV
 simp only at *
 generalize ae.sub.length=sl at *
 obtain ⟨o,n,m,s⟩:=ae
 simp only [Ex.op,Ex.n,Ex.name] at *
 cases ais <;> cases amem
 all_goals (
  go_enter Tryz.func29, Tryz.ntmps29
  go_wp2_with fail
  refine (HQ.out _ ((bra _ _).alloc (by simp) _)).mono ?_
  rintro e w1 ⟨rfl,hb1⟩
  go_wp2_with fail
  go_ret
  exact ⟨rfl,((bra _ _).alloc (by simp) _).trans (hb1.mono (by simp;omega))⟩)
theorem refSame12_eq (s:St) (v u:Value) (w:World) (hs:ArAt w (· < w.heap.size) v s.args) (ht:ArAt w (· < w.heap.size) u s.args) :
  Calls Tryz.prog 8 #[stV s v,stV s u] w fun e w'=>e=.returned (.bool true)/\Below w.heap.size w w':=by
 obtain ⟨A,c,rfl,hc,hm⟩:=hs.form
 obtain ⟨A',c',rfl,hc',hm'⟩:=ht.form
 unfold maxLen at hm hm'
 have HS:=LH hs
 have HT:=LH ht
 clear hs ht
 obtain ⟨lab,colon,op,l⟩:=s
 unfold stV
 simp only at *
 have n1:(lab != lab)=false:=by simp
 have n2:(op != op)=false:=by simp
 have n3:((l.length:Int) != (l.length:Int))=false:=by simp
 have n4:(colon != colon)=false:=by simp
 go_enter Tryz.func8, Tryz.ntmps8
 go_wp2_with fail
 go_loopw [5] (fun i wr=>∃ k:Nat,k<=l.length/\i=.int .i64 k/\Below (w.heap.size+2) ((w.alloc (.cells #[Sx lab,.bool colon,Sx op,.slice A l.length c] 24)).alloc (.cells #[Sx lab,.bool colon,Sx op,.slice A' l.length c'] 24)) wr) (fun i _=>l.length - (intOf i).toNat)
 case atStart=>exact ⟨0,Nat.zero_le _,rfl,Below.refl _ _⟩
 case round=>
  obtain ⟨k,hk,rfl,hb⟩:=hrel
  have b1:=box1_at hb 3 (.slice A l.length c) rfl
  have b2:=box2_at hb 3 (.slice A' l.length c') rfl
  have hz:w.heap.size+2<=wr.heap.size:=by have:=hb.size;simp at this;omega
  have hbw:Below w.heap.size w wr:=((bra _ _).alloc (by simp) _).trans (hb.mono (by omega))
  have HB:=LH hb
  have HBW:=LH hbw
  clear hb
  by_cases hlt:k<l.length
  ·obtain ⟨g,o,v1,hA,hgl,c0,c1,c2,c3,c4,c5,c6,c7,hs1⟩:=(HS.out.at hbw hbw.size).get k hlt
   subst hA
   obtain ⟨sA,sc,rfl,_,_⟩:=hs1.form
   obtain ⟨g',o',v2,hA',hgl',d0,d1,d2,d3,d4,d5,d6,d7,hs2⟩:=(HT.out.at hbw hbw.size).get k hlt
   subst hA'
   obtain ⟨tA,tc,rfl,_,_⟩:=hs2.form
   have HC:=LH (refArg_eq l[k] _ _ wr.drew (hs1.keep (w':=wr.drew) (fun p _=>rfl) (fun _ h=>h)) (hs2.keep (w':=wr.drew) (fun p _=>rfl) (fun _ h=>h)))
   generalize l[k]=x at *
   clear hs1 hs2 hbw
   go_wp2_with fail
   go_still_tail 10,(by kernel_rfl)
   change wpList _ _ _ _ _ wr.drew
   go_wp2_with fail
   refine HC.out.mono ?_
   rintro e0 w5 ⟨rfl,hb5⟩
   go_wp2_with fail
   go_roundw
   case rel=>exact ⟨k+1,by omega,by go_num,HB.out.drew.trans (hb5.mono hz)⟩
   case measure=>simp [intOf];omega
  ·obtain rfl:k=l.length:=by omega
   clear hbw
   go_wp2_with fail
   go_ret
   exact ⟨rfl,HBW.out⟩
end Go.Proofs.YtijgppokofganaaGreatDoor
