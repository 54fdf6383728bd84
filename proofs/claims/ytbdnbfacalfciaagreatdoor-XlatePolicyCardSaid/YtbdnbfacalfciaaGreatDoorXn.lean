/- Xn. -/
import Derived.Test.YtbdnbfacalfciaaGreatDoorXm
import Derived.Test.YtbdnbfacalfciaaGreatDoorXd
import Derived.Test.YtbdnbfacalfciaaGreatDoorKo
namespace Go.Proofs.YtbdnbfacalfciaaGreatDoor
set_option maxHeartbeats 4000000
open Go.RowKit
def TestS (w0:World) (K:FuncId) (caps:Array Value) (l:List (List UInt8)) (p:List UInt8->Bool):Prop:=
 (∀ args W,(callFunc K args).run Tryz.prog W=.ok (.enter K args) W)/\∀ (a:List UInt8) (W:World),a∈l->Below w0.heap.size w0 W ->
  Calls Tryz.prog K (#[strV a]++caps) W fun e W'=>e=.returned (.bool (p a))/\Below W.heap.size W W'
def idxT (p:List UInt8->Bool) (l:List (List UInt8)):Int:=match l.findIdx? p with
 | some k=>(k:Int)
 | none=>-1
theorem idxT_at (p:List UInt8->Bool) (l:List (List UInt8)) (k:Nat) (hk:k<l.length) (h0:∀ j (hj:j<l.length),j<k->p l[j]=false) (h:p l[k]=true):idxT p l=(k:Int):=by
 unfold idxT
 rw [List.findIdx?_eq_some_iff_getElem.2 ⟨hk,h,fun j hj=>by simp [h0 j (by omega) hj]⟩]
theorem idxT_no (p:List UInt8->Bool) (l:List (List UInt8)) (h0:∀ j (hj:j<l.length),p l[j]=false):idxT p l = -1:=by
 unfold idxT
 rw [List.findIdx?_eq_none_iff.2 (fun x hx=>by obtain ⟨j,hj,rfl⟩:=List.getElem_of_mem hx;exact h0 j hj)]
theorem idxT_any (p:List UInt8->Bool) (l:List (List UInt8)):decide (0<=idxT p l)=l.any p:=by
 unfold idxT
 cases h:l.findIdx? p with
 | some k=>
  obtain ⟨hk,h1,_⟩:=List.findIdx?_eq_some_iff_getElem.1 h
  rw [Bool.eq_iff_iff]
  simp only [decide_eq_true_eq,List.any_eq_true]
  exact ⟨fun _=>⟨_,List.getElem_mem hk,h1⟩,fun _=>by omega⟩
 | none=>
  have:=List.findIdx?_eq_none_iff.1 h
  rw [Bool.eq_iff_iff]
  simp only [decide_eq_true_eq,List.any_eq_true]
  exact ⟨fun h=>absurd h (by decide),fun ⟨x,hx,hp⟩=>by rw [this x hx] at hp;cases hp⟩
theorem idxT_gen (p:List UInt8->Bool) (l:List (List UInt8)) (v:Value) (K:FuncId) (caps:Array Value) (w:World) (hK:TestS w K caps l p) (hs:Rd w w.heap.size v l.length (l.map strV)) (hm:l.length<=100000000) :
  Calls Tryz.prog 129 #[v,.func (.func K) #[] caps] w fun e w'=>e=.returned (.int .i64 (idxT p l))/\Below w.heap.size w w':=by
 obtain ⟨A,c,rfl,hc,h3⟩:=hs
 have HS:=LH h3
 have heg:=hK.1
 have HF:=LH hK.2
 have HALLN:=LH (idxT_at p l)
 have HALLY:=LH (idxT_no p l)
 generalize idxT p l=rl at *
 clear h3 hK
 go_enter Tryz.func129, Tryz.ntmps129
 go_wp2_with fail
 go_loopw [8] (fun i wr=>∃ k:Nat,k<=l.length/\i=.int .i64 k/\(∀ j (hj:j<l.length),j<k->p l[j]=false)/\Below w.heap.size w wr) (fun i _=>l.length - (intOf i).toNat)
 case atStart=>exact ⟨0,Nat.zero_le _,rfl,fun j _ hj=>absurd hj (by omega),Below.refl _ _⟩
 case round=>
  obtain ⟨k,hk,rfl,hall,hb⟩:=hrel
  have hsz:=hb.size
  have HALL:=LH hall
  clear hall
  by_cases hlt:k<l.length
  ·obtain ⟨g,q,rfl,hgl,hcell⟩:=HS.out (by omega)
   have d0:=(hb.cell (p:=⟨g,q+k,none⟩) hgl).trans (hcell k (strV l[k]) (by simp [hlt]))
   have HC:=LH (HF.out l[k] wr (List.getElem_mem hlt) hb)
   have HN:=LH (HALLN.out k hlt HALL.out)
   have HT:Hid (p l[k]=false->∀ j (hj:j<l.length),j<k+1->p l[j]=false):=LH (fun h j hj hjk=>by
    by_cases e:j=k
    ·subst e;exact h
    ·exact HALL.out j hj (by omega))
   generalize l[k]=x at *
   clear hcell HALLN
   unfold strV at *
   cases hp:p x with
   | false=>
    rw [hp] at HC
    have HT2:=LH (HT.out hp)
    clear hp HT HN
    go_wp2_with fail
    refine HC.out.mono ?_
    rintro e0 w5 ⟨rfl,hb5⟩
    go_wp2_with fail
    go_roundw
    case rel=>exact ⟨k+1,by omega,by go_num,HT2.out,bthen hb hb5⟩
    case measure=>simp [intOf];omega
   | true=>
    rw [hp] at HC
    have hrl:=HN.out hp
    clear hp HN
    subst hrl
    go_wp2_with fail
    refine HC.out.mono ?_
    rintro e0 w5 ⟨rfl,hb5⟩
    go_wp2_with fail
    go_ret
    exact ⟨rfl,bthen hb hb5⟩
  ·obtain rfl:k=l.length:=by omega
   have hrl:=HALLY.out (fun j hj=>HALL.out j hj hj)
   subst hrl
   go_wp2_with fail
   go_ret
   exact ⟨rfl,hb⟩
theorem contT_gen (p:List UInt8->Bool) (l:List (List UInt8)) (v:Value) (K:FuncId) (caps:Array Value) (w:World) (hK:TestS w K caps l p) (hs:Rd w w.heap.size v l.length (l.map strV)) (hm:l.length<=100000000) :
  Calls Tryz.prog 75 #[v,.func (.func K) #[] caps] w fun e w'=>e=.returned (.bool (l.any p))/\Below w.heap.size w w':=by
 have HI:=LH (idxT_gen p l v K caps w hK hs hm)
 have HZ:=LH (idxT_any p l)
 obtain ⟨A,c,rfl,hc,_⟩:=hs
 generalize l.any p=rl at *
 generalize idxT p l=z at *
 clear hK
 go_enter Tryz.func75, Tryz.ntmps75
 go_wp2_with fail
 refine HI.out.mono ?_
 rintro e w2 ⟨rfl,hb2⟩
 go_wp2_with fail
 go_ret
 exact ⟨ret_bool HZ.out,hb2⟩
def PrgAt (w:World) (p:Nat) (iv:Value) (entry:Nat) (sv lv uv nv:Value) (hb cb:Nat) (srcv:Value):Prop:=w.heap[p]? = some (.cells #[iv,.int .u16 entry,sv,lv,uv,nv,.map (some hb),.map (some cb),srcv] 54 (0,0))
theorem named1_enter (args:Array Value) (W:World):(callFunc 77 args).run Tryz.prog W=.ok (.enter 77 args) W:=enters_of Tryz.func77 (by kernel_rfl) rfl args W
theorem named1_any (p b cb:Nat) (iv:Value) (entry:Nat) (sv lv uv nv:Value) (hb:Nat) (srcv:Value) (code:List (List UInt8)) (s:List UInt8) (w:World) (hp:PrgAt w p iv entry sv lv uv nv hb cb srcv) (hbx:w.heap[b]? = some (.cells #[.pointer (some ⟨p,0,none⟩)] 46 (0,0))) (hc:SetS w cb code) (hs:s.length<=1000) :
  Calls Tryz.prog 77 #[.string ⟨s.toArray⟩,.pointer (some ⟨b,0,none⟩)] w fun e w'=>e=.returned (.bool (decide (s∈code)))/\w=w':=by
 have c0:=coh (i:=0) hbx
 have c7:=coh (i:=7) hp
 simp at c0 c7
 have hlk:=hc.at s hs
 generalize decide (s∈code)=r at *
 clear hp hbx hc
 go_enter Tryz.func77, Tryz.ntmps77
 go_wp2_with fail
 go_ret
 exact ⟨rfl,rfl⟩
theorem names_ex0 (A:Option Addr) (c:Nat) (w:World):Calls Tryz.prog 76 #[.agg #[.string ⟨#[]⟩,.int .u16 0,.string ⟨#[]⟩,.slice A 0 c]] w fun e w'=>∃ v',e=.returned v'/\Rd w' w'.heap.size v' (namesE ex0).length ((namesE ex0).map strV)/\Below w.heap.size w w':=by
 go_enter Tryz.func76, Tryz.ntmps76
 go_wp2_with fail
 go_loop [2,16] (fun o i=>o=.slice none 0 0/\i=.int .i64 0) (fun _ _=>0)
 case atStart=>exact ⟨rfl,rfl⟩
 case round=>
  obtain ⟨rfl,rfl⟩:=hrel
  go_wp2_with fail
  go_ret
  exact ⟨_,rfl,⟨none,0,rfl,Nat.le_refl _,fun h=>absurd h (by simp [ex0,namesE,namesL])⟩,(Below.refl _ _).alloc (Nat.le_refl _) _⟩
theorem names_all (e:Ex) (v:Value) (w:World) (hr:rightE e 24=true∨e=ex0) (hs:SubAt w (· < w.heap.size) v e.sub) :
  Calls Tryz.prog 76 #[.agg #[.string ⟨e.op.toArray⟩,.int .u16 e.n,.string ⟨e.name.toArray⟩,v]] w fun r w'=>∃ v',r=.returned v'/\Rd w' w'.heap.size v' (namesE e).length ((namesE e).map strV)/\Below w.heap.size w w':=by
 rcases hr with h | rfl
 ·exact Names_any e 24 v w (by omega) h hs
 ·obtain ⟨A,c,rfl,_,_⟩:=hs.form
  exact names_ex0 A c w
set_option maxRecDepth 100000 in
theorem named_any (p hb cb:Nat) (iv:Value) (entry:Nat) (sv lv uv nv srcv:Value) (code:List (List UInt8)) (a:Ar) (v:Value) (w:World) (hp:PrgAt w p iv entry sv lv uv nv hb cb srcv) (hc:SetS w cb code) (hs:SubAt w (· < w.heap.size) v a.e.sub)
  (hr:rightE a.e 24=true∨a.e=ex0) (hn:∀ s∈namesE a.e,s.length<=1000) (hk:(namesE a.e).length<=100000000) :
  Calls Tryz.prog 38 #[.pointer (some ⟨p,0,none⟩),arV a v] w fun e w'=>e=.returned (.bool ((namesE a.e).any fun s=>decide (s∈code)))/\Below w.heap.size w w':=by
 have hplt:=loh hp
 have hclt:=hc.lt
 have hn1:=named1_enter
 have HN:=LH (fun W (hW:Below w.heap.size w W)=>names_all a.e v W hr (hs.at hW hW.size))
 obtain ⟨A,c,rfl,_,_⟩:=hs.form
 have B2:=LH (((Below.refl w.heap.size w).alloc (Nat.le_refl _) (.cells #[.pointer (some ⟨p,0,none⟩)] 46)).alloc (by simp) (.cells #[.string ⟨a.w.toArray⟩,.string ⟨a.t.toArray⟩,.bool a.is,.bool a.mem,.string ⟨a.e.op.toArray⟩,.int .u16 a.e.n,.string ⟨a.e.name.toArray⟩,.slice A a.e.sub.length c] 72))
 have O0:=LH ((Below.heap_alloc (w.alloc (.cells #[.pointer (some ⟨p,0,none⟩)] 46)) (.cells #[.string ⟨a.w.toArray⟩,.string ⟨a.t.toArray⟩,.bool a.is,.bool a.mem,.string ⟨a.e.op.toArray⟩,.int .u16 a.e.n,.string ⟨a.e.name.toArray⟩,.slice A a.e.sub.length c] 72) w.heap.size (by simp)).trans (heap_alloc_new w _))
 have HTS:Hid (∀ W,Below w.heap.size w W->W.heap[w.heap.size]? = some (.cells #[.pointer (some ⟨p,0,none⟩)] 46 (0,0))->TestS W 77 #[.pointer (some ⟨w.heap.size,0,none⟩)] (namesE a.e) (fun s=>decide (s∈code))):=LH (fun W hW hbx=>⟨named1_enter,fun s W2 hsm hW2=>by
  refine (named1_any p w.heap.size cb iv entry sv lv uv nv hb srcv code s W2 ?_ ?_ ?_ (hn s hsm)).mono ?_
  ·exact ((hW2.block p (Nat.lt_of_lt_of_le hplt hW.size)).trans (hW.block p hplt)).trans hp
  ·exact (hW2.block _ (loh hbx)).trans hbx
  ·exact hc.keep ((hW2.block cb (Nat.lt_of_lt_of_le hclt hW.size)).trans (hW.block cb hclt))
  ·rintro e w' ⟨rfl,rfl⟩
   exact ⟨rfl,Below.refl _ _⟩⟩)
 have HK:=LH hk
 generalize (fun s=>decide (s∈code))=pd at *
 generalize namesE a.e=ns at *
 unfold arV
 clear hp hc hs hr hn hk
 go_enter Tryz.func38, Tryz.ntmps38
 go_wp2_with fail
 refine (HN.out _ B2.out).mono ?_
 rintro e w3 ⟨v3,rfl,hrd,hb3⟩
 have B3:=LH (bthen B2.out hb3)
 have O3:=LH ((hb3.block w.heap.size (by simp;omega)).trans O0.out)
 have HC:=LH (contT_gen pd ns v3 _ _ w3 (HTS.out w3 B3.out O3.out) hrd HK.out)
 obtain ⟨A3,c3,rfl,_⟩:=hrd
 clear hb3 HN HTS B2 O0
 go_wp2_with fail
 refine HC.out.mono ?_
 rintro e w4 ⟨rfl,hb4⟩
 have B4:=LH (bthen B3.out hb4)
 go_wp2_with fail
 go_ret
 exact ⟨rfl,B4.out⟩
def TestB (w0:World) (K:FuncId) (bs:Array Value) (l:List Ar) (p:Ar->Bool):Prop:=
 (∀ args W,(callFunc K args).run Tryz.prog W=.ok (.enter K args) W)/\∀ (a:Ar) (v:Value) (W:World),a∈l->Below w0.heap.size w0 W->SubAt W (· < W.heap.size) v a.e.sub ->
  Calls Tryz.prog K (bs ++ #[arV a v]) W fun e w'=>e=.returned (.bool (p a))/\Below W.heap.size W w'
theorem idxB_gen (p:Ar->Bool) (l:List Ar) (v:Value) (K:FuncId) (bs:Array Value) (w:World) (hK:TestB w K bs l p) (hs:ArAt w (· < w.heap.size) v l) :
  Calls Tryz.prog 74 #[v,.func (.func K) bs #[]] w fun e w'=>e=.returned (.int .i64 (idxA p l))/\Below w.heap.size w w':=by
 obtain ⟨A,c,rfl,hc,hm2⟩:=hs.form
 unfold maxLen at hm2
 have HS:=LH hs
 have heg:=hK.1
 have HF:=LH hK.2
 have HALLN:=LH (idxA_at p l)
 have HALLY:=LH (idxA_no p l)
 generalize idxA p l=rl at *
 clear hs hK
 go_enter Tryz.func74, Tryz.ntmps74
 go_wp2_with fail
 go_loopw [8] (fun i wr=>∃ k:Nat,k<=l.length/\i=.int .i64 k/\(∀ j (hj:j<l.length),j<k->p l[j]=false)/\Below w.heap.size w wr) (fun i _=>l.length - (intOf i).toNat)
 case atStart=>exact ⟨0,Nat.zero_le _,rfl,fun j _ hj=>absurd hj (by omega),Below.refl _ _⟩
 case round=>
  obtain ⟨k,hk,rfl,hall,hb⟩:=hrel
  have hsz:=hb.size
  have HALL:=LH hall
  clear hall
  by_cases hlt:k<l.length
  ·obtain ⟨g,q,vk,rfl,hgl,c0,c1,c2,c3,c4,c5,c6,c7,hsub⟩:=HS.out.get k hlt
   obtain ⟨vA,vc,rfl,_,_⟩:=hsub.form
   have d0:=(hb.cell (p:=⟨g,q+k * 8,none⟩) hgl).trans c0
   have d1:=(hb.cell (p:=⟨g,q+k * 8+1,none⟩) hgl).trans c1
   have d2:=(hb.cell (p:=⟨g,q+k * 8+2,none⟩) hgl).trans c2
   have d3:=(hb.cell (p:=⟨g,q+k * 8+3,none⟩) hgl).trans c3
   have d4:=(hb.cell (p:=⟨g,q+k * 8+4,none⟩) hgl).trans c4
   have d5:=(hb.cell (p:=⟨g,q+k * 8+5,none⟩) hgl).trans c5
   have d6:=(hb.cell (p:=⟨g,q+k * 8+6,none⟩) hgl).trans c6
   have d7:=(hb.cell (p:=⟨g,q+k * 8+7,none⟩) hgl).trans c7
   have HC:=LH (HF.out l[k] _ wr (List.getElem_mem hlt) hb (hsub.at hb hsz))
   have HN:=LH (HALLN.out k hlt HALL.out)
   have HT:Hid (p l[k]=false->∀ j (hj:j<l.length),j<k+1->p l[j]=false):=LH (fun h j hj hjk=>by
    by_cases e:j=k
    ·subst e;exact h
    ·exact HALL.out j hj (by omega))
   generalize l[k]=x at *
   unfold arV at HC
   clear c0 c1 c2 c3 c4 c5 c6 c7 hsub HALLN
   cases hp:p x with
   | false=>
    rw [hp] at HC
    have HT2:=LH (HT.out hp)
    clear hp HT HN
    go_wp2_with fail
    refine HC.out.mono ?_
    rintro e0 w5 ⟨rfl,hb5⟩
    go_wp2_with fail
    go_roundw
    case rel=>exact ⟨k+1,by omega,by go_num,HT2.out,bthen hb hb5⟩
    case measure=>simp [intOf];omega
   | true=>
    rw [hp] at HC
    have hrl:=HN.out hp
    clear hp HN
    subst hrl
    go_wp2_with fail
    refine HC.out.mono ?_
    rintro e0 w5 ⟨rfl,hb5⟩
    go_wp2_with fail
    go_ret
    exact ⟨rfl,bthen hb hb5⟩
  ·obtain rfl:k=l.length:=by omega
   have hrl:=HALLY.out (fun j hj=>HALL.out j hj hj)
   subst hrl
   go_wp2_with fail
   go_ret
   exact ⟨rfl,hb⟩
theorem contB_gen (p:Ar->Bool) (l:List Ar) (v:Value) (K:FuncId) (bs:Array Value) (w:World) (hK:TestB w K bs l p) (hs:ArAt w (· < w.heap.size) v l) :
  Calls Tryz.prog 37 #[v,.func (.func K) bs #[]] w fun e w'=>e=.returned (.bool (l.any p))/\Below w.heap.size w w':=by
 have HI:=LH (idxB_gen p l v K bs w hK hs)
 have HZ:=LH (idxA_any p l)
 obtain ⟨A,c,rfl,hc⟩:=hs.form
 generalize l.any p=rl at *
 generalize idxA p l=z at *
 clear hs hK
 go_enter Tryz.func37, Tryz.ntmps37
 go_wp2_with fail
 refine HI.out.mono ?_
 rintro e w2 ⟨rfl,hb2⟩
 go_wp2_with fail
 go_ret
 exact ⟨ret_bool HZ.out,hb2⟩
end Go.Proofs.YtbdnbfacalfciaaGreatDoor
