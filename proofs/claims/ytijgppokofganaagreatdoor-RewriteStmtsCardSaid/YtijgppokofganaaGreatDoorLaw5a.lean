/- Law5a. -/
import Derived.Test.YtijgppokofganaaGreatDoorKg
import Derived.Test.YtijgppokofganaaGreatDoorKi
namespace Go.Proofs.YtijgppokofganaaGreatDoor
open Go.RowKit
theorem lightE_mk (o:List UInt8) (n:Nat) (m:List UInt8) (s:List Ex) (d:Nat):lightE (.mk o n m s) d=(!(d == 0) && decide (s.length<=3) && decide (o.length<=50) && decide (m.length<=50) && lightL s (d - 1)):=by simp [lightE]
theorem lightL_all (s:List Ex) (d:Nat):lightL s d=s.all (fun e=>lightE e d):=by
 induction s with
 | nil=>rfl
 | cons e s ih=>simp [lightL,ih]
def LightH (x:Ex):Prop:=∀ (d:Nat) (v:Value) (w:World),d<=1000->okE x->SubAt w (· < w.heap.size) v x.sub ->
 Calls Tryz.prog 9 #[.agg #[.string ⟨x.op.toArray⟩,.int .u16 x.n,.string ⟨x.name.toArray⟩,v],.int .i64 d] w fun e w'=>e=.returned (.bool (lightE x d))/\Below w.heap.size w w'
theorem box_at {w wr:World} {cs:Array Value} {T:TypeId} (hb:Below (w.heap.size+1) (w.alloc (.cells cs T)) wr) (i:Nat) (u:Value) (hu:cs[i]? = some u):wr.cell? ⟨w.heap.size,i,none⟩=some u:=by
 rw [hb.cell (p:=⟨w.heap.size,i,none⟩) (by simp),coh (heap_alloc_new w _)]
 exact hu
set_option maxHeartbeats 4000000 in
set_option maxRecDepth 100000 in
theorem Light_any (x:Ex):LightH x:=by
 induction x using Ex.ind with
 | h o n m s ih=>
  intro d v w hd hok hs
  obtain ⟨_,ho,hm⟩:=hok
  simp only [Ex.op,Ex.name,Ex.n,Ex.sub] at ho hm hs ⊢
  unfold maxLen at ho hm
  have HL:=lightE_mk o n m s d
  have HA:=lightL_all s (d - 1)
  obtain ⟨A,c,rfl,hc,hm2⟩:=hs.form
  unfold maxLen at hm2
  rw [HA] at HL
  clear HA
  have HR:=LH HL
  have HS:=LH hs
  have HI:=LH ih
  clear HL hs ih
  generalize lightE (.mk o n m s) d=res at *
  by_cases h0:d=0
  ·have HRES:Hid (res=false):=LH (by rw [HR.out,h0];rfl)
   subst h0
   go_enter Tryz.func9, Tryz.ntmps9
   go_wp2_with fail
   go_ret
   rw [HRES.out]
   exact ⟨rfl,bra _ _⟩
  have h0':((d:Int) == 0)=false:=by rw [beq_eq_false_iff_ne];omega
  have hd1:(1:Int)<=(d:Int):=by omega
  by_cases h1:3<s.length
  ·have HRES:Hid (res=false):=LH (by rw [HR.out,show decide (s.length<=3)=false by simp;omega];simp)
   have h1':(3:Int)<(s.length:Int):=by omega
   go_enter Tryz.func9, Tryz.ntmps9
   go_wp2_with fail
   go_ret
   rw [HRES.out]
   exact ⟨rfl,bra _ _⟩
  have h1':decide ((3:Int)<(s.length:Int))=false:=by simp;omega
  by_cases h2:50<o.length
  ·have HRES:Hid (res=false):=LH (by rw [HR.out,show decide (o.length<=50)=false by simp;omega];simp)
   have h2':(50:Int)<(o.length:Int):=by omega
   go_enter Tryz.func9, Tryz.ntmps9
   go_wp2_with fail
   go_ret
   rw [HRES.out]
   exact ⟨rfl,bra _ _⟩
  have h2':decide ((50:Int)<(o.length:Int))=false:=by simp;omega
  by_cases h3:50<m.length
  ·have HRES:Hid (res=false):=LH (by rw [HR.out,show decide (m.length<=50)=false by simp;omega];simp)
   have h3':(50:Int)<(m.length:Int):=by omega
   go_enter Tryz.func9, Tryz.ntmps9
   go_wp2_with fail
   go_ret
   rw [HRES.out]
   exact ⟨rfl,bra _ _⟩
  have h3':decide ((50:Int)<(m.length:Int))=false:=by simp;omega
  have HR2:Hid (res=s.all (fun e=>lightE e (d - 1))):=LH (by
   rw [HR.out,show decide (s.length<=3)=true by simp;omega,show decide (o.length<=50)=true by simp;omega,show decide (m.length<=50)=true by simp;omega,show (d == 0)=false by simpa using h0]
   simp)
  clear HR h0 h1 h2 h3
  go_enter Tryz.func9, Tryz.ntmps9
  go_wp2_with fail
  go_loopw [5] (fun i wr=>∃ k:Nat,k<=s.length/\i=.int .i64 k/\(s.take k).all (fun e=>lightE e (d - 1))=true/\Below (w.heap.size+1) (w.alloc (.cells #[Sx o,.int .u16 n,Sx m,.slice A s.length c] 34)) wr) (fun i _=>s.length - (intOf i).toNat)
  case atStart=>exact ⟨0,Nat.zero_le _,rfl,rfl,Below.refl _ _⟩
  case round=>
   obtain ⟨k,hk,rfl,hall,hb⟩:=hrel
   have hz:w.heap.size<wr.heap.size:=by have:=hb.size;simp at this;omega
   have e3:=box_at hb 3 _ rfl
   have hbw:Below w.heap.size w wr:=(bra _ _).trans (hb.mono (by omega))
   have HALL:=LH hall
   have HB:=LH hb
   clear hall hb
   by_cases hlt:k<s.length
   ·obtain ⟨g,q,vk,rfl,hg,c0,c1,c2,c3,hsub,hn,hoo⟩:=HS.out.get k hlt
    obtain ⟨vA,vc,rfl,_,_⟩:=hsub.form
    have d0:=(hbw.cell (p:=⟨g,q+k * 4,none⟩) hg).trans c0
    have d1:=(hbw.cell (p:=⟨g,q+k * 4+1,none⟩) hg).trans c1
    have d2:=(hbw.cell (p:=⟨g,q+k * 4+2,none⟩) hg).trans c2
    have d3:=(hbw.cell (p:=⟨g,q+k * 4+3,none⟩) hg).trans c3
    have HC:Hid (Calls Tryz.prog 9 #[.agg #[.string ⟨s[k].op.toArray⟩,.int .u16 s[k].n,.string ⟨s[k].name.toArray⟩,.slice vA s[k].sub.length vc],.int .i64 ((d:Int) - 1)] wr fun e w'=>e=.returned (.bool (lightE s[k] (d - 1)))/\Below wr.heap.size wr w'):=LH (by
     have:=HI.out s[k] (List.getElem_mem hlt) (d - 1) _ wr (by omega) ⟨hn,hoo⟩ ((hsub.bel hbw).more (fun x hx=>Nat.lt_of_lt_of_le hx hbw.size))
     rwa [show ((d - 1:Nat):Int)=(d:Int) - 1 by omega] at this)
    have HT:Hid ((s.take (k+1)).all (fun e=>lightE e (d - 1))=((s.take k).all (fun e=>lightE e (d - 1)) && lightE s[k] (d - 1))):=LH (by rw [List.take_succ_eq_append_getElem hlt,List.all_append];simp)
    have HN:Hid (lightE s[k] (d - 1)=false->res=false):=LH (fun h=>by rw [HR2.out,List.all_eq_false];exact ⟨s[k],List.getElem_mem hlt,by simp [h]⟩)
    generalize s[k]=ek at *
    have HBW:=LH hbw
    clear c0 c1 c2 c3 hsub hbw
    cases hre:lightE ek (d - 1) with
    | true=>
     rw [hre] at HC HT
     clear hre
     go_wp2_with fail
     refine HC.out.mono ?_
     rintro e0 w5 ⟨rfl,hb5⟩
     go_wp2_with fail
     go_roundw
     case rel=>exact ⟨k+1,by omega,by go_num,by rw [HT.out,HALL.out];rfl,HB.out.trans (hb5.mono hz)⟩
     case measure=>simp [intOf];omega
    | false=>
     rw [hre] at HC
     have hrl:=HN.out hre
     clear hre HN
     subst hrl
     go_wp2_with fail
     refine HC.out.mono ?_
     rintro e0 w5 ⟨rfl,hb5⟩
     go_wp2_with fail
     go_ret
     exact ⟨rfl,bthen HBW.out hb5⟩
   ·obtain rfl:k=s.length:=by omega
    have hrl:res=true:=by rw [HR2.out];have:=HALL.out;rwa [List.take_length] at this
    subst hrl
    have HBW:=LH hbw
    clear hbw
    go_wp2_with fail
    go_ret
    exact ⟨rfl,HBW.out⟩
theorem countE_mk (c:Nat) (o:List UInt8) (n:Nat) (m:List UInt8) (s:List Ex):countE c (.mk o n m s)=countL c s 1:=by rw [countE]
theorem countL_cons (c:Nat) (e:Ex) (r:List Ex) (n:Nat):countL c (e :: r) n=if n<=c then countL c r (n+countE c e) else n:=by rw [countL]
theorem countL_nil (c n:Nat):countL c [] n=n:=by rw [countL]
theorem countL_le (c M:Nat) (s:List Ex) (h:∀ e∈s,countE c e<=M):∀ n,countL c s n<=max n (c+M):=by
 induction s with
 | nil=>intro n;rw [countL_nil];omega
 | cons e s ih=>
  intro n
  rw [countL_cons]
  split
  ·have h1:=ih (fun x hx=>h x (by simp [hx])) (n+countE c e)
   have h2:=h e (by simp)
   omega
  ·omega
end Go.Proofs.YtijgppokofganaaGreatDoor
