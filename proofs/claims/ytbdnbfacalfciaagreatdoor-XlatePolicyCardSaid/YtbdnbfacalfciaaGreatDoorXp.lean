/- Xp. -/
import Derived.Test.YtbdnbfacalfciaaGreatDoorKa
import Derived.Test.YtbdnbfacalfciaaGreatDoorShelf
import Derived.Deep.QuietTactic
import Derived.BigQuiet
import Derived.RegionTactic
import Derived.Lib.QuietBelow
import Derived.Test.YtbdnbfacalfciaaGreatDoorXm
import Derived.Test.YtbdnbfacalfciaaGreatDoorXd
import Derived.Test.YtbdnbfacalfciaaGreatDoorUb
import Derived.Test.YtbdnbfacalfciaaGreatDoorXg
namespace Go.Proofs.YtbdnbfacalfciaaGreatDoor
set_option maxRecDepth 100000
set_option maxHeartbeats 4000000
open Go.RowKit
structure Nd where
 pl:Nat
 op:Nat
 n:Nat
def ndV (x:Nd):Value:=.agg #[.int .u16 (x.pl:Nat),.int .u8 (x.op:Nat),.int .u16 (x.n:Nat)]
def ndCells (x:Nd):List Value:=[.int .u16 (x.pl:Nat),.int .u8 (x.op:Nat),.int .u16 (x.n:Nat)]
def rowN (l:List Nd):List Value:=l.flatMap ndCells
theorem rowN_snoc (l:List Nd) (a:Nd):rowN (l++[a])=rowN l++ndCells a:=by simp [rowN]
theorem rowN_get (l:List Nd):∀ i (hi:i<l.length) j u,(ndCells l[i])[j]? = some u->(rowN l)[i * 3+j]? = some u:=by
 induction l with
 | nil=>intro i hi;simp at hi
 | cons a l ih=>
  intro i hi j u hu
  cases i with
  | zero=>
   have hj:j<(ndCells a).length:=(List.getElem?_eq_some_iff.1 hu).1
   simp only [rowN,List.flatMap_cons,Nat.zero_mul,Nat.zero_add]
   rw [List.getElem?_append_left hj]
   exact hu
  | succ i=>
   have h1:=ih i (by simpa using hi) j u hu
   simp only [rowN,List.flatMap_cons] at h1 ⊢
   rw [List.getElem?_append_right (by show 3<=_;omega),show (i+1) * 3+j - (ndCells a).length=i * 3+j by show (i+1) * 3+j - 3=_;omega]
   exact h1
abbrev NdR (w:World) (B:Nat) (v:Value) (l:List Nd):Prop:=Rd w B v l.length (rowN l)
theorem NdR.get {w:World} {B:Nat} {A:Option Addr} {n c:Nat} {l:List Nd} (h:NdR w B (.slice A n c) l) (i:Nat) (hi:i<l.length) :
  ∃ g o,A=some ⟨g,o,none⟩/\g<B/\w.cell? ⟨g,o+i * 3,none⟩=some (.int .u16 (l[i].pl:Nat))/\w.cell? ⟨g,o+i * 3+1,none⟩=some (.int .u8 (l[i].op:Nat))/\w.cell? ⟨g,o+i * 3+2,none⟩=some (.int .u16 (l[i].n:Nat)):=by
 obtain ⟨A',c',h1,h2,h3⟩:=h
 injection h1 with h1 _ _
 subst h1
 obtain ⟨g,o,g1,g2,g3⟩:=h3 (by omega)
 have G:=fun j u hu=>g3 _ _ (rowN_get l i hi j u hu)
 exact ⟨g,o,g1,g2,G 0 _ rfl,G 1 _ rfl,G 2 _ rfl⟩
def cmpN (a b:Nat):Int:=if a<b then -1 else if b<a then 1 else 0
theorem nan_any (a:Nat) (w:World):Calls Tryz.prog 72 #[.int .u16 (a:Nat)] w fun e w'=>e=.returned (.bool false)/\w=w':=by
 go_enter Tryz.func72, Tryz.ntmps72
 go_wp2_with fail
 go_ret
 exact ⟨rfl,rfl⟩
theorem cmp16_any (a b:Nat) (w:World):Calls Tryz.prog 35 #[.int .u16 (a:Nat),.int .u16 (b:Nat)] w fun e w'=>e=.returned (.int .i64 (cmpN a b))/\w=w':=by
 have H1:=LH (fun W=>nan_any a W)
 have H2:=LH (fun W=>nan_any b W)
 unfold cmpN
 by_cases h1:a<b
 ·have i1:(a:Int)<(b:Int):=by omega
  rw [if_pos h1]
  go_enter Tryz.func35, Tryz.ntmps35
  go_wp2_with (first | ((with_reducible refine (H1.out _).mono ?_);rintro e w' ⟨rfl,rfl⟩) | ((with_reducible refine (H2.out _).mono ?_);rintro e w' ⟨rfl,rfl⟩))
  go_ret
  exact ⟨rfl,rfl⟩
 ·rw [if_neg h1]
  have i1:(b:Int)<=(a:Int):=by omega
  by_cases h2:b<a
  ·have i2:(b:Int)<(a:Int):=by omega
   rw [if_pos h2]
   go_enter Tryz.func35, Tryz.ntmps35
   go_wp2_with (first | ((with_reducible refine (H1.out _).mono ?_);rintro e w' ⟨rfl,rfl⟩) | ((with_reducible refine (H2.out _).mono ?_);rintro e w' ⟨rfl,rfl⟩))
   go_ret
   exact ⟨rfl,rfl⟩
  ·have i2:(a:Int)<=(b:Int):=by omega
   rw [if_neg h2]
   go_enter Tryz.func35, Tryz.ntmps35
   go_wp2_with (first | ((with_reducible refine (H1.out _).mono ?_);rintro e w' ⟨rfl,rfl⟩) | ((with_reducible refine (H2.out _).mono ?_);rintro e w' ⟨rfl,rfl⟩))
   go_ret
   exact ⟨rfl,rfl⟩
theorem rd1_any (a b:Nd) (w:World):Calls Tryz.prog 34 #[ndV a,ndV b] w fun e w'=>e=.returned (.int .i64 (cmpN a.pl b.pl))/\Below w.heap.size w w':=by
 have H1:=LH (fun W=>cmp16_any a.pl b.pl W)
 have hb:=((Below.refl w.heap.size w).alloc (Nat.le_refl _) (.cells #[.int .u16 (a.pl:Nat),.int .u8 (a.op:Nat),.int .u16 (a.n:Nat)] 58)).alloc (by simp) (.cells #[.int .u16 (b.pl:Nat),.int .u8 (b.op:Nat),.int .u16 (b.n:Nat)] 58)
 unfold ndV
 go_enter Tryz.func34, Tryz.ntmps34
 go_wp2_with fail
 refine (H1.out _).mono ?_
 rintro e w1 ⟨rfl,rfl⟩
 go_wp2_with fail
 go_ret
 exact ⟨rfl,hb⟩
theorem rd1_enter (args:Array Value) (W:World):(callFunc 34 args).run Tryz.prog W=.ok (.enter 34 args) W:=enters_of Tryz.func34 (by kernel_rfl) rfl args W
def Rise (l:List Nd):Prop:=∀ i (hi:i+1<l.length),l[i].pl<=l[i+1].pl
theorem isort_any (l:List Nd) (v:Value) (w:World) (hv:NdR w w.heap.size v l) (hl:l.length<=12) (hr:Rise l) :
  Calls Tryz.prog 119 #[v,.int .i64 0,.int .i64 l.length,.func (.func 34) #[] #[]] w fun e w'=>e=.returned (.tuple #[])/\Below w.heap.size w w':=by
 obtain ⟨A,c,rfl,hc,_⟩:=id hv
 have HV:=LH hv
 have HR:=LH hr
 have HN:=LH (fun a b W=>rd1_any a b W)
 have hn1:=rd1_enter
 clear hv hr
 go_enter Tryz.func119, Tryz.ntmps119
 go_wp2_with fail
 go_loopw [8] (fun i wr=>∃ k:Nat,1<=k/\k<=l.length+1/\i=.int .i64 k/\Below w.heap.size w wr) (fun i _=>l.length+1 - (intOf i).toNat)
 case atStart=>exact ⟨1,by omega,by omega,rfl,Below.refl _ _⟩
 case round=>
  obtain ⟨k,hk1,hk,rfl,hb⟩:=hrel
  have hsz:=hb.size
  by_cases hlt:k<l.length
  ·have i1:(k:Int)<(l.length:Int):=by omega
   have i2:(0:Int)<(k:Int):=by omega
   obtain ⟨g,o,rfl,hg,a0,a1,a2⟩:=HV.out.get k hlt
   obtain ⟨g',o',e1,_,b0,b1,b2⟩:=HV.out.get (k - 1) (by omega)
   injection e1 with e1
   injection e1 with e1 e2
   subst e1 e2
   have d0:=(hb.cell (p:=⟨g,o+k * 3,none⟩) hg).trans a0
   have d1:=(hb.cell (p:=⟨g,o+k * 3+1,none⟩) hg).trans a1
   have d2:=(hb.cell (p:=⟨g,o+k * 3+2,none⟩) hg).trans a2
   have q0:=(hb.cell (p:=⟨g,o+(k - 1) * 3,none⟩) hg).trans b0
   have q1:=(hb.cell (p:=⟨g,o+(k - 1) * 3+1,none⟩) hg).trans b1
   have q2:=(hb.cell (p:=⟨g,o+(k - 1) * 3+2,none⟩) hg).trans b2
   have hle:l[k - 1].pl<=l[k].pl:=by
    have:=HR.out (k - 1) (by omega)
    simpa [show k - 1+1=k by omega] using this
   have HC:=LH (HN.out l[k] l[k - 1])
   have hcv:cmpN l[k].pl l[k - 1].pl=0∨cmpN l[k].pl l[k - 1].pl=1:=by unfold cmpN;rw [if_neg (by omega)];split <;> simp
   unfold ndV at HC
   generalize cmpN l[k].pl l[k - 1].pl=cv at *
   generalize l[k]=x at *
   generalize l[k - 1]=y at *
   obtain ⟨k',rfl⟩:∃ k',k=k'+1:=⟨k - 1,by omega⟩
   rw [show k'+1 - 1=k' by omega] at q0 q1 q2
   clear a0 a1 a2 b0 b1 b2 hle
   have i3:(0:Int)<((k'+1:Nat):Int):=by omega
   have i4:(k':Int)+1<(l.length:Int):=by omega
   have i6:(k':Int)<(l.length:Int):=by omega
   have i7:(0:Int)<=(k':Int)+1:=by omega
   have i8:((k':Int)+1).toNat=k'+1:=by omega
   have i9:(0:Int)<(k':Int)+1:=by omega
   have i5:IntKind.i64.wrap (k':Int)=(k':Int):=IntWalk.i64_in _ (by omega)
   have e1:decide (cv<0)=false:=by rcases hcv with rfl | rfl <;> rfl
   have e2:¬ cv<0:=by rcases hcv with rfl | rfl <;> decide
   have cC:∀ d' os,Calls Tryz.prog 34 #[.agg #[.int .u16 (x.pl:Nat),.int .u8 (x.op:Nat),.int .u16 (x.n:Nat)],.agg #[.int .u16 (y.pl:Nat),.int .u8 (y.op:Nat),.int .u16 (y.n:Nat)]] (Go.Sort.grow (redrawn wr d') os) fun e w''=>e=.returned (.int .i64 cv)/\∃ p:Regrown,w''=Go.Sort.grow (redrawn wr p.d) p.os:=fun d' os=>Calls.regrown_of (HC.out _)
   have CC:=LH cC
   have j0:=cell_regrown d0
   have j1:=cell_regrown d1
   have j2:=cell_regrown d2
   have p0:=cell_regrown q0
   have p1:=cell_regrown q1
   have p2:=cell_regrown q2
   clear hcv
   clear cC HC d0 d1 d2 q0 q1 q2 i1 i2 i3
   go_wp2_with fail
   refine wp_loop_rounds 1 ?_
   rw [rounds_succ]
   go_wp2_with fail
   refine wp_region_quiet_below (by kernel_rfl) (by kernel_rfl) ?_
   repeat (quiet_step (first | (go_at_call 34;exact CC.out _ _) | fail))
   refine wpQuiet_nil ?_
   intro _ hw'
   obtain ⟨⟨dq,osq⟩,hw''⟩:=hw'
   subst hw''
   have B2:=LH (bthen hb (below_regrown wr dq osq))
   clear j0 j1 j2 p0 p1 p2 CC
   generalize Go.Sort.grow (redrawn wr dq) osq=w2 at *
   go_wp2_with fail
   go_roundw
   case rel=>exact ⟨k'+1+1,by omega,by omega,by go_num,B2.out⟩
   case measure=>simp [intOf];omega
  ·have i1:(l.length:Int)<=(k:Int):=by omega
   go_wp2_with fail
   go_end0
   exact ⟨rfl,hb⟩
theorem pdq_any (l:List Nd) (v:Value) (lim:Int) (w:World) (hv:NdR w w.heap.size v l) (hl:l.length<=12) (hr:Rise l) :
  Calls Tryz.prog 70 #[v,.int .i64 0,.int .i64 l.length,.int .i64 lim,.func (.func 34) #[] #[]] w fun e w'=>e=.returned (.tuple #[])/\Below w.heap.size w w':=by
 have HI:=LH (isort_any l v w hv hl hr)
 obtain ⟨A,c,rfl,hc,_⟩:=hv
 have i1:(l.length:Int)<=12:=by omega
 have i2:IntKind.i64.wrap (l.length:Int)=(l.length:Int):=IntWalk.i64_in _ (by omega)
 clear hr
 go_enter Tryz.func70, Tryz.ntmps70
 go_wp2_with fail
 refine wp_loop_rounds 1 ?_
 rw [rounds_succ]
 go_wp2_with fail
 refine HI.out.mono ?_
 rintro e w1 ⟨rfl,hb⟩
 go_wp2_with fail
 (try simp only [Exit.inBlock,Exit.then])
 refine bodyPost_ret (results_none rfl _ _ _) rfl ?_
 exact ⟨rfl,hb⟩
theorem sortf_any (l:List Nd) (v:Value) (w:World) (hv:NdR w w.heap.size v l) (hl:l.length<=12) (hr:Rise l) :
  Calls Tryz.prog 33 #[v,.func (.func 34) #[] #[]] w fun e w'=>e=.returned (.tuple #[])/\Below w.heap.size w w':=by
 have HP:=LH (fun lim=>pdq_any l v lim w hv hl hr)
 have HB:=LH (fun W=>Tryz.bits_Len l.length W (by omega) (by omega))
 obtain ⟨A,c,rfl,hc,_⟩:=hv
 clear hr
 go_enter Tryz.func33, Tryz.ntmps33
 go_wp2_with fail
 refine (HB.out _).mono ?_
 rintro e w1 ⟨rfl,rfl⟩
 go_wp2_with fail
 refine (HP.out _).mono ?_
 rintro e w2 ⟨rfl,hb⟩
 go_wp2_with fail
 go_end0
 exact ⟨rfl,hb⟩
def TestN (w0:World) (K:FuncId) (caps:Array Value) (l:List Nd) (p:Nd->Bool):Prop:=
 (∀ args W,(callFunc K args).run Tryz.prog W=.ok (.enter K args) W)/\∀ (a:Nd) (W:World),a∈l->Below w0.heap.size w0 W ->
  Calls Tryz.prog K (#[ndV a]++caps) W fun e W'=>e=.returned (.bool (p a))/\Below W.heap.size W W'
def idxN (p:Nd->Bool) (l:List Nd):Int:=match l.findIdx? p with
 | some k=>(k:Int)
 | none=>-1
theorem idxN_at (p:Nd->Bool) (l:List Nd) (k:Nat) (hk:k<l.length) (h0:∀ j (hj:j<l.length),j<k->p l[j]=false) (h:p l[k]=true):idxN p l=(k:Int):=by
 unfold idxN
 rw [List.findIdx?_eq_some_iff_getElem.2 ⟨hk,h,fun j hj=>by simp [h0 j (by omega) hj]⟩]
theorem idxN_no (p:Nd->Bool) (l:List Nd) (h0:∀ j (hj:j<l.length),p l[j]=false):idxN p l = -1:=by
 unfold idxN
 rw [List.findIdx?_eq_none_iff.2 (fun x hx=>by obtain ⟨j,hj,rfl⟩:=List.getElem_of_mem hx;exact h0 j hj)]
theorem idxN_gen (p:Nd->Bool) (l:List Nd) (v:Value) (K:FuncId) (caps:Array Value) (w:World) (hK:TestN w K caps l p) (hs:NdR w w.heap.size v l) (hm:l.length<=100000000) :
  Calls Tryz.prog 176 #[v,.func (.func K) #[] caps] w fun e w'=>e=.returned (.int .i64 (idxN p l))/\Below w.heap.size w w':=by
 have HS:=LH hs
 obtain ⟨A,c,rfl,hc,h3⟩:=hs
 have heg:=hK.1
 have HF:=LH hK.2
 have HALLN:=LH (idxN_at p l)
 have HALLY:=LH (idxN_no p l)
 generalize idxN p l=rl at *
 clear h3 hK
 go_enter Tryz.func176, Tryz.ntmps176
 go_wp2_with fail
 go_loopw [8] (fun i wr=>∃ k:Nat,k<=l.length/\i=.int .i64 k/\(∀ j (hj:j<l.length),j<k->p l[j]=false)/\Below w.heap.size w wr) (fun i _=>l.length - (intOf i).toNat)
 case atStart=>exact ⟨0,Nat.zero_le _,rfl,fun j _ hj=>absurd hj (by omega),Below.refl _ _⟩
 case round=>
  obtain ⟨k,hk,rfl,hall,hb⟩:=hrel
  have hsz:=hb.size
  have HALL:=LH hall
  clear hall
  by_cases hlt:k<l.length
  ·obtain ⟨g,q,rfl,hgl,c0,c1,c2⟩:=HS.out.get k hlt
   have d0:=(hb.cell (p:=⟨g,q+k * 3,none⟩) hgl).trans c0
   have d1:=(hb.cell (p:=⟨g,q+k * 3+1,none⟩) hgl).trans c1
   have d2:=(hb.cell (p:=⟨g,q+k * 3+2,none⟩) hgl).trans c2
   clear c0 c1 c2
   have HC:=LH (HF.out l[k] wr (List.getElem_mem hlt) hb)
   have HN:=LH (HALLN.out k hlt HALL.out)
   have HT:Hid (p l[k]=false->∀ j (hj:j<l.length),j<k+1->p l[j]=false):=LH (fun h j hj hjk=>by
    by_cases e:j=k
    ·subst e;exact h
    ·exact HALL.out j hj (by omega))
   generalize l[k]=x at *
   clear HALLN
   unfold ndV at HC
   cases hp:p x with
   | false=>
    rw [hp] at HC
    have HT2:=LH (HT.out hp)
    clear hp HT HN
    go_wp2_with fail
    refine HC.out.mono ?_
    rintro e0 w5 ⟨rfl,hb5⟩
    go_wp2_with fail
    go_roundw
    case rel=>exact ⟨k+1,by omega,by go_num,HT2.out,bthen hb hb5⟩
    case measure=>simp [intOf];omega
   | true=>
    rw [hp] at HC
    have hrl:=HN.out hp
    clear hp HN
    subst hrl
    go_wp2_with fail
    refine HC.out.mono ?_
    rintro e0 w5 ⟨rfl,hb5⟩
    go_wp2_with fail
    go_ret
    exact ⟨rfl,bthen hb hb5⟩
  ·obtain rfl:k=l.length:=by omega
   have hrl:=HALLY.out (fun j hj=>HALL.out j hj hj)
   subst hrl
   go_wp2_with fail
   go_ret
   exact ⟨rfl,hb⟩
theorem at1_enter (args:Array Value) (W:World):(callFunc 177 args).run Tryz.prog W=.ok (.enter 177 args) W:=enters_of Tryz.func177 (by kernel_rfl) rfl args W
theorem at1_any (b a:Nat) (x:Nd) (w:World) (hb:w.cell? ⟨b,0,none⟩=some (.int .u16 (a:Nat))) :
  Calls Tryz.prog 177 #[ndV x,.pointer (some ⟨b,0,none⟩)] w fun e w'=>e=.returned (.bool (x.pl == a))/\Below w.heap.size w w':=by
 have hbl:∀ o,(w.alloc o).cell? ⟨b,0,none⟩=some (.int .u16 (a:Nat)):=fun o=>new_keep (o:=o) hb
 unfold ndV
 go_enter Tryz.func177, Tryz.ntmps177
 go_wp2_with fail
 go_ret
 exact ⟨ret_bool (by rw [Bool.eq_iff_iff,beq_iff_eq,beq_iff_eq];omega),(Below.refl _ _).alloc (Nat.le_refl _) _⟩
theorem gat_any (l:List Nd) (v:Value) (a:Nat) (w:World) (hs:NdR w w.heap.size v l) (hl:l.length<=1000) :
  Calls Tryz.prog 130 #[v,.int .u16 (a:Nat)] w fun e w'=>e=.returned (.int .i64 (idxN (·.pl == a) l))/\Below w.heap.size w w':=by
 have BA:=(Below.refl w.heap.size w).alloc (Nat.le_refl _) (.cells #[.int .u16 (a:Nat)] 22)
 have HI:=LH (idxN_gen (·.pl == a) l v 177 #[.pointer (some ⟨w.heap.size,0,none⟩)] (w.alloc (.cells #[.int .u16 (a:Nat)] 22)) ⟨at1_enter,fun x W _ hW=>at1_any _ a x W ((hW.cell (p:=⟨w.heap.size,0,none⟩) (by simp)).trans (by rw [coh (heap_alloc_new w _)];rfl))⟩ ((hs.below BA).more (by simp)) (by omega))
 have BB:=LH BA
 obtain ⟨A,c,rfl,hc,_⟩:=hs
 clear BA
 generalize idxN (fun x=>x.pl == a) l=r at *
 go_enter Tryz.func130, Tryz.ntmps130
 go_wp2_with fail
 refine HI.out.mono ?_
 rintro e w1 ⟨rfl,hb⟩
 go_wp2_with fail
 go_ret
 exact ⟨rfl,BB.out.trans (hb.mono (by simp))⟩
theorem info_intF:(Tryz.prog.info? 3).map (fun i=>(i.zero,i.size,i.bytes))=some (some (.int .i64 0),1,8):=by kernel_rfl
def iV (k:Nat):Value:=.int .i64 (k:Nat)
def StepAt (w:World) (s:Nat) (x:Nd) (gv tv:Value) (op:Bool):Prop:=w.heap[s]? = some (.cells #[.int .u16 (x.pl:Nat),.int .u8 (x.op:Nat),.int .u16 (x.n:Nat),gv,tv,.bool op] 167 (0,0))
theorem goes_any (l:List Nd) (s a:Nat) (x:Nd) (gv tv:Value) (op:Bool) (ts:List Nat) (w:World) (hst:StepAt w s x gv tv op) (hto:w.ownsRow (s+1) 3 1 tv ts.length (ts.map iV)) (hg:NdR w s gv l) (hl:l.length<=1000) (ht:ts.length<=1000) :
  Calls Tryz.prog 78 #[.pointer (some ⟨s,0,none⟩),.int .u16 (a:Nat)] w fun e w'=>e=.returned (.tuple #[])/\∃ tv' op' us,StepAt w' s x gv tv' op'/\w'.ownsRow (s+1) 3 1 tv' us.length (us.map iV) /\
   (op',us)=(match l.findIdx? (·.pl == a) with | some k=>(op,ts++[k]) | none=>(true,ts))/\Below s w w':=by
 have hsl:=loh hst
 have HA:=LH (gat_any l gv a w (hg.more (by omega)) hl)
 have HST:=LH hst
 have HTO:=LH hto
 have c3:=coh (i:=3) hst
 simp at c3
 have hgv:=hg.form
 obtain ⟨gA,gc,rfl,_⟩:=hgv
 obtain ⟨tA,tc,rfl,_⟩:=own_slice hto (by decide)
 unfold idxN at HA
 clear hst hto hg
 cases hf:l.findIdx? (·.pl == a) with
 | none=>
  rw [hf] at HA
  simp only at HA
  go_enter Tryz.func78, Tryz.ntmps78
  go_wp2_with fail
  refine HA.out.mono ?_
  rintro e w1 ⟨rfl,hb⟩
  have HS1:Hid (StepAt w1 s x (.slice gA l.length gc) (.slice tA ts.length tc) op):=LH ((hb.block s hsl).trans HST.out)
  have HT1:=LH (row_keep HTO.out (fun q hq=>hb.block q (HTO.out.lt q hq).2))
  have HB:=LH (hb.mono (Nat.le_of_lt hsl))
  have f5:=foh (i:=5) HS1.out
  have c5:=coh (i:=5) HS1.out
  simp at f5 c5
  clear hb HA HST HTO c3
  go_wp2_with fail
  refine bodyPost_ret (results_none rfl _ _ _) rfl ?_
  refine ⟨rfl,_,_,ts,heap_set (i:=5) _ HS1.out,row_keep HT1.out (fun q hq=>set_block (w:=w1) (g:=s) (i:=5) (u:=.bool true) (by have:=(HT1.out.lt q hq).1;omega)),rfl,HB.out.setCell (Nat.le_refl _) _⟩
 | some k=>
  rw [hf] at HA
  simp only at HA
  go_enter Tryz.func78, Tryz.ntmps78
  go_wp2_with fail
  refine HA.out.mono ?_
  rintro e w1 ⟨rfl,hb⟩
  have HS1:Hid (StepAt w1 s x (.slice gA l.length gc) (.slice tA ts.length tc) op):=LH ((hb.block s hsl).trans HST.out)
  have HT1:=LH (row_keep HTO.out (fun q hq=>hb.block q (HTO.out.lt q hq).2))
  have HB:=LH (hb.mono (Nat.le_of_lt hsl))
  have hsl1:=loh HS1.out
  have c4:=coh (i:=4) HS1.out
  have f4:=foh (i:=4) HS1.out
  simp at c4 f4
  have i1:¬ ((k:Int)<0):=by omega
  clear hb HA HST HTO c3
  go_wp2_with (at_builtin;refine wpList_append_at w1 w1.heap.size rfl rfl (.tmp 20) (.tmp 22) 24 rfl (s+1) 3 _ 1 8 Tryz.underlying24 info_intF rfl (by decide) HT1.out rfl [.int .i64 (k:Nat)] 3 rfl rfl (by intro u hu;simp at hu;subst hu;rfl) (by omega) (by omega) hsl1 ?_;intro v9 w9 hown9 hbel9;obtain ⟨xA,xc,rfl,_⟩:=own_slice hown9 (by decide);have c49:=(hbel9.cell (p:=⟨s,4,none⟩) (Nat.lt_succ_self s)).trans c4;have f49:=(World.frozen?_of_block (a:=⟨s,4,none⟩) (hbel9.block s (Nat.lt_succ_self s))).trans f4)
  go_end0
  refine ⟨rfl,_,_,ts++[k],heap_set (i:=4) _ ((hbel9.block s (Nat.lt_succ_self s)).trans HS1.out),?_,rfl,(HB.out.trans (hbel9.mono (Nat.le_succ s))).setCell (Nat.le_refl _) _⟩
  rw [List.length_append,List.map_append]
  exact row_keep hown9 (fun q hq=>set_block (w:=w9) (g:=s) (i:=4) (u:=.slice xA (ts.length+1) xc) (by have:=(hown9.lt q hq).1;omega))
theorem behind_any (s:Nat) (x:Nd) (gv tv:Value) (op:Bool) (w:World) (hst:StepAt w s x gv tv op) (ho:x.op<256) :
  Calls Tryz.prog 79 #[.pointer (some ⟨s,0,none⟩)] w fun e w'=>e=.returned (.int .u16 (((x.pl+size80 x.op) % 65536:Nat):Int))/\Below w.heap.size w w':=by
 have c0:=coh (i:=0) hst
 have c1:=coh (i:=1) hst
 simp at c0 c1
 have CH:Hid (∀ d' os,Calls Tryz.prog 14 #[.int .u8 (x.op:Nat)] (Go.Sort.grow (redrawn w d') os) fun e w''=>e=.returned (.int .i64 (size80 x.op))/\∃ p:Regrown,w''=Go.Sort.grow (redrawn w p.d) p.os):=LH (fun d' os=>Calls.regrown_of (size80_any x.op ho (Go.Sort.grow (redrawn w d') os)))
 have j0:=cell_regrown c0
 have j1:=cell_regrown c1
 generalize size80 x.op=z at *
 clear hst ho c0 c1
 go_enter Tryz.func79, Tryz.ntmps79
 go_wp2_with fail
 refine wp_region_quiet_below (by kernel_rfl) (by kernel_rfl) ?_
 repeat (quiet_step (first | (go_at_call 14;exact CH.out _ _)))
 refine wpQuiet_nil ?_
 intro _ hw'
 obtain ⟨⟨dq,osq⟩,hw''⟩:=hw'
 subst hw''
 go_wp2_with fail
 go_ret
 exact ⟨ret_int (by simp only [IntKind.wrap_u16];omega),below_regrown w dq osq⟩
def RowU (w:World) (g o:Nat) (l:List Nat):Prop:=∀ k (h:k<l.length),w.cell? ⟨g,o+k,none⟩=some (.int .u8 (l[k]:Nat))
theorem idxU_any (l:List Nat) (x g o c:Nat) (w:World) (hc:RowU w g o l) (hl:l.length<=1000) :
  Calls Tryz.prog 139 #[.slice (some ⟨g,o,none⟩) l.length c,.int .u8 (x:Nat)] w fun e w'=>∃ r:Int,e=.returned (.int .i64 r)/\decide (0<=r)=decide (x∈l)/\w=w':=by
 have HC:=LH hc
 clear hc
 go_enter Tryz.func139, Tryz.ntmps139
 go_wp2_with fail
 go_loopw [8] (fun i wr=>∃ k:Nat,k<=l.length/\i=.int .i64 k/\(∀ j (hj:j<l.length),j<k->l[j]≠x)/\w=wr) (fun i _=>l.length - (intOf i).toNat)
 case atStart=>exact ⟨0,Nat.zero_le _,rfl,fun j _ hj=>absurd hj (by omega),rfl⟩
 case round=>
  obtain ⟨k,hk,rfl,hall,rfl⟩:=hrel
  have HALL:=LH hall
  clear hall
  by_cases hlt:k<l.length
  ·have d0:=HC.out k hlt
   have i1:(k:Int)<(l.length:Int):=by omega
   by_cases hp:l[k]=x
   ·have e1:((x:Int) == ((l[k]:Nat):Int))=true:=by rw [beq_iff_eq];omega
    have hm:decide ((0:Int)<=(k:Int))=decide (x∈l):=by rw [decide_eq_true (by omega),decide_eq_true (hp ▸ List.getElem_mem hlt)]
    generalize l[k]=y at *
    clear hp
    go_wp2_with fail
    go_ret
    exact ⟨_,rfl,hm,rfl⟩
   ·have e1:((x:Int) == ((l[k]:Nat):Int))=false:=by rw [beq_eq_false_iff_ne];omega
    have HT:Hid (∀ j (hj:j<l.length),j<k+1->l[j]≠x):=LH (fun j hj hjk=>by
     by_cases e:j=k
     ·subst e;exact hp
     ·exact HALL.out j hj (by omega))
    generalize l[k]=y at *
    clear hp
    go_wp2_with fail
    go_roundw
    case rel=>exact ⟨k+1,by omega,by go_num,HT.out,trivial⟩
    case measure=>simp [intOf];omega
  ·obtain rfl:k=l.length:=by omega
   have hm:decide ((0:Int) <= -1)=decide (x∈l):=by
    rw [decide_eq_false (by omega),decide_eq_false]
    intro h
    obtain ⟨j,hj,e⟩:=List.getElem_of_mem h
    exact HALL.out j hj hj e
   go_wp2_with fail
   go_ret
   exact ⟨_,rfl,hm,rfl⟩
theorem contU_any (l:List Nat) (x g o c:Nat) (w:World) (hc:RowU w g o l) (hl:l.length<=1000) :
  Calls Tryz.prog 98 #[.slice (some ⟨g,o,none⟩) l.length c,.int .u8 (x:Nat)] w fun e w'=>e=.returned (.bool (decide (x∈l)))/\w=w':=by
 have HI:=LH (idxU_any l x g o c w hc hl)
 generalize decide (x∈l)=r at *
 clear hc
 go_enter Tryz.func98, Tryz.ntmps98
 go_wp2_with fail
 refine HI.out.mono ?_
 rintro e w1 ⟨k,rfl,hk,rfl⟩
 go_wp2_with fail
 go_ret
 exact ⟨rfl,rfl⟩
theorem among_any (l:List Nat) (x g o c:Nat) (w:World) (hc:RowU w g o l) (hl:l.length<=1000) :
  Calls Tryz.prog 49 #[.int .u8 (x:Nat),.slice (some ⟨g,o,none⟩) l.length c] w fun e w'=>e=.returned (.bool (decide (x∈l)))/\w=w':=by
 have HI:=LH (contU_any l x g o c w hc hl)
 generalize decide (x∈l)=r at *
 clear hc
 go_enter Tryz.func49, Tryz.ntmps49
 go_wp2_with fail
 refine HI.out.mono ?_
 rintro e w1 ⟨rfl,rfl⟩
 go_wp2_with fail
 go_ret
 exact ⟨rfl,rfl⟩
def ends80 (op:Nat):Bool:=decide (op∈[195,201,233,118])
theorem ends_any (op:Nat) (w:World):Calls Tryz.prog 15 #[.int .u8 (op:Nat)] w fun e w'=>e=.returned (.bool (ends80 op))/\Below w.heap.size w w':=by
 have HI:=LH (among_any [195,201,233,118] op w.heap.size 0 4 (w.alloc (.cells #[.int .u8 195,.int .u8 201,.int .u8 233,.int .u8 118] 5)) (fun k h=>by
  rw [Nat.zero_add,coh (heap_alloc_new w _)]
  match k,h with
  | 0,_=>rfl
  | 1,_=>rfl
  | 2,_=>rfl
  | 3,_=>rfl) (by decide))
 unfold ends80
 have HB:=LH ((Below.refl w.heap.size w).alloc (Nat.le_refl _) (.cells #[.int .u8 195,.int .u8 201,.int .u8 233,.int .u8 118] 5))
 generalize decide (op∈[195,201,233,118])=r at *
 go_enter Tryz.func15, Tryz.ntmps15
 go_wp2_with fail
 refine HI.out.mono ?_
 rintro e w1 ⟨rfl,rfl⟩
 go_wp2_with fail
 go_ret
 exact ⟨rfl,HB.out⟩
theorem row1_holds (w:World) (g o k n:Nat) (h:w.cell? ⟨g,o,none⟩=some (.int .i64 (k:Nat))) (hf:w.frozen? ⟨g,o,none⟩=false):Go.Sort.Holds (Value.int .i64) (Go.Sort.ahead w n) g o [(k:Int)].toArray:=by
 intro j hj
 obtain rfl:j=0:=by simpa using hj
 exact ⟨h,hf⟩
theorem below_ahead (w:World) (n:Nat) (os:Array Obj):Below w.heap.size w (Go.Sort.grow (Go.Sort.ahead w n) os):=below_regrown w (w.drawn+n) os
theorem sort1_any (g o c k:Nat) (w:World) (h:w.cell? ⟨g,o,none⟩=some (.int .i64 (k:Nat))) (hf:w.frozen? ⟨g,o,none⟩=false) (hg:g<w.heap.size) :
  Calls Tryz.prog 80 #[.slice (some ⟨g,o,none⟩) 1 c] w fun e w'=>e=.returned (.tuple #[])/\Below w.heap.size w w':=by
 refine (Tryz.slices_Sort_int g o c [(k:Int)] w (row1_holds w g o k 0 h hf) hg (by simp)).mono ?_
 rintro e w' ⟨rfl,n,os,rfl⟩
 refine ⟨rfl,?_⟩
 rw [List.mergeSort_singleton,Go.Sort.putRow_self _ _ _ _ _ (row1_holds w g o k n h hf)]
 exact below_ahead w n os
theorem comp1_any (g o c k:Nat) (w:World) (h:w.cell? ⟨g,o,none⟩=some (.int .i64 (k:Nat))) (hf:w.frozen? ⟨g,o,none⟩=false) (hc:1<=c) :
  Calls Tryz.prog 81 #[.slice (some ⟨g,o,none⟩) 1 c] w fun e w'=>e=.returned (.slice (some ⟨g,o,none⟩) 1 c)/\∃ q,w'=Go.Sort.ahead w q:=by
 refine (Tryz.slices_Compact_int g o c [(k:Int)] w (row1_holds w g o k 0 h hf) (by simp) hc).mono ?_
 rintro e w' ⟨rfl,n,rfl⟩
 refine ⟨rfl,n,?_⟩
 exact Go.Sort.putRow_self _ _ _ _ _ (row1_holds w g o k n h hf)
theorem comp1b_any (g o c k:Nat) (w:World) (h:w.cell? ⟨g,o,none⟩=some (.int .i64 (k:Nat))) (hf:w.frozen? ⟨g,o,none⟩=false) (hc:1<=c) :
  Calls Tryz.prog 81 #[.slice (some ⟨g,o,none⟩) 1 c] w fun e w'=>e=.returned (.slice (some ⟨g,o,none⟩) 1 c)/\Below w.heap.size w w':=(comp1_any g o c k w h hf hc).mono fun e w' h=>by
 obtain ⟨h1,q,rfl⟩:=h
 exact ⟨h1,rfl,rfl,rfl,Nat.le_refl _,fun _ _=>rfl⟩
theorem own1_get {w:World} {B k:Nat} {v:Value} (h:w.ownsRow B 3 1 v 1 [iV k]):∃ g c,v=.slice (some ⟨g,0,none⟩) 1 c/\1<=c/\B<=g/\g<w.heap.size/\w.cell? ⟨g,0,none⟩=some (.int .i64 (k:Nat))/\w.frozen? ⟨g,0,none⟩=false:=by
 obtain ⟨_,h1 | ⟨g,cap,cur,rfl,hb,h3,hcap,_,hsz,ht⟩⟩:=h
 ·exact absurd h1.2 (by decide)
 ·refine ⟨g,cap,rfl,hcap,hb,loh h3,?_,?_⟩
  ·rw [coh h3]
   have h5:cur.toList[0]? = some (iV k):=by
    have:=congrArg (fun l:List Value=>l[0]?) ht
    simpa using this
   simpa [iV] using h5
  ·rw [foh h3]
   decide
theorem sort0_any (w:World):Calls Tryz.prog 80 #[.slice none 0 0] w fun e w'=>e=.returned (.tuple #[])/\w'=w:=Tryz.slices_Sort_int_none none 0 w
theorem comp0_any (w:World):Calls Tryz.prog 81 #[.slice none 0 0] w fun e w'=>e=.returned (.slice none 0 0)/\Below w.heap.size w w':=(Tryz.slices_Compact_int_empty none 0 w).mono fun _ _ h=>⟨h.1,h.2 ▸ Below.refl _ _⟩
theorem next_halt (l:List Nd) (i:Nat) (v:Value) (w:World) (hg:NdR w w.heap.size v l) (hi:i<l.length) (ho:l[i].op=118) :
  Calls Tryz.prog 41 #[v,.int .i64 (i:Nat)] w fun e w'=>e=.returned (.tuple #[.slice none 0 0,.bool true])/\Below w.heap.size w w':=by
 obtain ⟨A,c,rfl,hc,_⟩:=id hg
 obtain ⟨g,o,rfl,hgl,c0,c1,c2⟩:=hg.get i hi
 have hop:((l[i].op:Nat):Int)=118:=by omega
 rw [hop] at c1
 have i1:(i:Int)<(l.length:Int):=by omega
 have i2:¬ ((i:Int)<0):=by omega
 have HE:=LH (fun W=>ends_any 118 W)
 generalize l[i].pl=pl at *
 generalize l[i].n=n at *
 have HB:=LH ((Below.refl w.heap.size w).alloc (Nat.le_refl _) (.cells #[.int .u16 (pl:Nat),.int .u8 118,.int .u16 (n:Nat),.slice (some ⟨g,o,none⟩) l.length c,.slice none 0 0,.bool false] 167))
 have HN:=LH (heap_alloc_new w (.cells #[.int .u16 (pl:Nat),.int .u8 118,.int .u16 (n:Nat),.slice (some ⟨g,o,none⟩) l.length c,.slice none 0 0,.bool false] 167))
 clear hg ho hop
 have e7:(bits BinOp.and IntKind.u8 118 199 == 192)=false:=by decide
 go_enter Tryz.func41, Tryz.ntmps41
 go_wp2_with fail
 refine (HE.out _).mono ?_
 rintro e w1 ⟨rfl,hb⟩
 rw [show ends80 118=true by decide]
 have HN1:=LH ((hb.block w.heap.size (by simp)).trans HN.out)
 have HB1:=LH (HB.out.trans (hb.mono (by simp)))
 have c1:=coh (i:=1) HN1.out
 have c4:=coh (i:=4) HN1.out
 have f5:=foh (i:=5) HN1.out
 have c5:=coh (i:=5) HN1.out
 simp at c1 c4 f5 c5
 have HS:=LH (fun W=>sort0_any W)
 have d4:(w1.setCell ⟨w.heap.size,5,none⟩ (.bool true)).cell? ⟨w.heap.size,4,none⟩=some (.slice none 0 0):=by rw [coh (heap_set (i:=5) _ HN1.out)];rfl
 have d5:(w1.setCell ⟨w.heap.size,5,none⟩ (.bool true)).cell? ⟨w.heap.size,5,none⟩=some (.bool true):=by rw [coh (heap_set (i:=5) _ HN1.out)];rfl
 clear HE HN HB c0 c2 hb
 go_wp2_with fail
 refine (HS.out _).mono ?_
 rintro e w2 ⟨rfl,rfl⟩
 have B2:=LH (HB1.out.setCell (p:=⟨w.heap.size,5,none⟩) (Nat.le_refl _) (.bool true))
 clear c1 c4 f5 c5 HN1 HB1 HS
 go_wp2_with fail
 generalize w1.setCell ⟨w.heap.size,5,none⟩ (.bool true)=w2 at *
 have CC:Hid (∀ d' os,Calls Tryz.prog 81 #[.slice none 0 0] (Go.Sort.grow (redrawn w2 d') os) fun e w''=>e=.returned (.slice none 0 0)/\∃ p:Regrown,w''=Go.Sort.grow (redrawn w2 p.d) p.os):=LH (fun d' os=>Calls.regrown_of (comp0_any (Go.Sort.grow (redrawn w2 d') os)))
 have j4:=cell_regrown d4
 have j5:=cell_regrown d5
 clear d4 d5
 refine wp_region_quiet_below (by kernel_rfl) (by kernel_rfl) ?_
 repeat (quiet_step (first | (go_at_call 81;exact CC.out _ _)))
 refine wpQuiet_nil ?_
 intro _ hw'
 obtain ⟨⟨dq,osq⟩,hw''⟩:=hw'
 subst hw''
 go_wp2_with fail
 go_ret2
 exact ⟨rfl,B2.out.trans ((below_regrown w2 dq osq).mono B2.out.size)⟩
theorem next_on (l:List Nd) (i k op:Nat) (v:Value) (w:World) (hg:NdR w w.heap.size v l) (hi:i<l.length) (hl:l.length<=1000) (ho:l[i].op=op) (hop:op=33∨op=35) (hk:l.findIdx? (·.pl == (l[i].pl+size80 l[i].op) % 65536)=some k) :
  Calls Tryz.prog 41 #[v,.int .i64 (i:Nat)] w fun e w'=>∃ a c,e=.returned (.tuple #[.slice (some a) 1 c,.bool false])/\w'.ownsRow w.heap.size 3 1 (.slice (some a) 1 c) 1 [iV k]/\Below w.heap.size w w':=by
 obtain ⟨A,c,rfl,hc,_⟩:=id hg
 obtain ⟨g,o,rfl,hgl,c0,c1,c2⟩:=hg.get i hi
 rw [ho] at c1
 have i1:(i:Int)<(l.length:Int):=by omega
 have i2:¬ ((i:Int)<0):=by omega
 have e1:((op:Int) == 205)=false:=by rw [beq_eq_false_iff_ne];omega
 have e2:(bits BinOp.and IntKind.u8 (op:Int) 199 == 199)=false:=by rcases hop with rfl | rfl <;> decide
 have e3:(bits BinOp.and IntKind.u8 (op:Int) 199 == 192)=false:=by rcases hop with rfl | rfl <;> decide
 have ob:op<256:=by omega
 have HE:=LH (fun W=>ends_any op W)
 rw [show ends80 op=false by rcases hop with rfl | rfl <;> decide] at HE
 have HJ:=LH (fun W=>jumps80_any op ob W)
 rw [show jumps80 op=false by rcases hop with rfl | rfl <;> decide] at HJ
 have HG:=LH hg
 have HK:=LH hk
 have HO:=LH ho
 generalize hx:l[i]=x at *
 clear hop hg hk hx ho
 obtain ⟨pl,op',n⟩:=x
 simp only at c0 c1 c2
 obtain rfl:op'=op:=HO.out
 clear HO
 have HB:=LH ((Below.refl w.heap.size w).alloc (Nat.le_refl _) (.cells #[.int .u16 (pl:Nat),.int .u8 (op':Nat),.int .u16 (n:Nat),.slice (some ⟨g,o,none⟩) l.length c,.slice none 0 0,.bool false] 167))
 have HN:=LH (heap_alloc_new w (.cells #[.int .u16 (pl:Nat),.int .u8 (op':Nat),.int .u16 (n:Nat),.slice (some ⟨g,o,none⟩) l.length c,.slice none 0 0,.bool false] 167))
 go_enter Tryz.func41, Tryz.ntmps41
 go_wp2_with fail
 refine (HE.out _).mono ?_
 rintro e w1 ⟨rfl,hb⟩
 have HN1:=LH ((hb.block w.heap.size (by simp)).trans HN.out)
 have HB1:=LH (HB.out.trans (hb.mono (by simp)))
 clear HE HN HB c0 hb
 have c1:=coh (i:=1) HN1.out
 simp at c1
 go_wp2_with fail
 refine (HJ.out _).mono ?_
 rintro e w2 ⟨rfl,rfl⟩
 have HST:Hid (StepAt w1 w.heap.size ⟨pl,op',n⟩ (.slice (some ⟨g,o,none⟩) l.length c) (.slice none 0 0) false):=HN1
 have HBH:=LH (behind_any w.heap.size ⟨pl,op',n⟩ _ _ false w1 HST.out ob)
 have hs1:w.heap.size<w1.heap.size:=loh HN1.out
 clear HN1 c1 HJ
 go_wp2_with fail
 refine HBH.out.mono ?_
 rintro e w2 ⟨rfl,hb⟩
 have HST2:Hid (StepAt w2 w.heap.size ⟨pl,op',n⟩ (.slice (some ⟨g,o,none⟩) l.length c) (.slice none 0 0) false):=LH ((hb.block _ hs1).trans HST.out)
 have HB2:=LH (HB1.out.trans (hb.mono (Nat.le_of_lt hs1)))
 have HGO:=LH (goes_any l w.heap.size ((pl+size80 op') % 65536) ⟨pl,op',n⟩ _ _ false [] w2 HST2.out (World.ownsRow_nil _ _ _ _) (HG.out.below HB2.out) hl (by simp))
 clear HBH hb HST HST2 HB1 hs1
 rw [HK.out] at HGO
 clear HK
 generalize (pl+size80 op') % 65536=aim at *
 go_wp2_with fail
 refine HGO.out.mono ?_
 rintro e w3 ⟨rfl,tv,op2,us,hst3,hown3,heq,hb3⟩
 injection heq with h1 h2
 subst h1 h2
 have HST3:=LH hst3
 have HOW3:=LH hown3
 have HB3:=LH (HB2.out.trans hb3)
 obtain ⟨tg,tc,rfl,htc,hbt,htl,ct,ft⟩:=own1_get hown3
 have HSO:=LH (sort1_any tg 0 tc k w3 ct ft htl)
 have c4:=coh (i:=4) hst3
 simp at c4
 clear hst3 hown3 hb3 HB2 HGO HG ct ft
 go_wp2_with fail
 refine HSO.out.mono ?_
 rintro e w4 ⟨rfl,hb4⟩
 have HST4:=LH ((hb4.block _ (loh HST3.out)).trans HST3.out)
 have hown4:=row_keep HOW3.out (fun q hq=>hb4.block q (HOW3.out.lt q hq).2)
 have HB4:=LH (HB3.out.trans (hb4.mono HB3.out.size))
 obtain ⟨tg2,tc2,e2,htc2,hbt2,htl2,ct,ft⟩:=own1_get hown4
 injection e2 with e2 _ e3
 injection e2 with e2
 injection e2 with e2 _ _
 subst e2 e3
 have HOW4:=LH hown4
 have c4:=coh (i:=4) HST4.out
 have c5:=coh (i:=5) HST4.out
 simp at c4 c5
 have CC:Hid (∀ d' os,Calls Tryz.prog 81 #[.slice (some ⟨tg,0,none⟩) 1 tc] (Go.Sort.grow (redrawn w4 d') os) fun e w''=>e=.returned (.slice (some ⟨tg,0,none⟩) 1 tc)/\∃ p:Regrown,w''=Go.Sort.grow (redrawn w4 p.d) p.os):=LH (fun d' os=>Calls.regrown_of (comp1b_any tg 0 tc k (Go.Sort.grow (redrawn w4 d') os) (((below_regrown w4 d' os).cell (p:=⟨tg,0,none⟩) htl2).trans ct) (((below_regrown w4 d' os).frozen (p:=⟨tg,0,none⟩) htl2).trans ft) htc))
 have j4:=cell_regrown c4
 have j5:=cell_regrown c5
 clear HST3 HOW3 HB3 hb4 hown4 HSO c4 c5 HST4 ct ft
 go_wp2_with fail
 refine wp_region_quiet_below (by kernel_rfl) (by kernel_rfl) ?_
 repeat (quiet_step (first | (go_at_call 81;exact CC.out _ _)))
 refine wpQuiet_nil ?_
 intro _ hw'
 obtain ⟨⟨dq,osq⟩,hw''⟩:=hw'
 subst hw''
 go_wp2_with fail
 go_ret2
 exact ⟨_,_,rfl,own_base (row_keep HOW4.out (fun q hq=>(below_regrown w4 dq osq).block q (HOW4.out.lt q hq).2)) (Nat.le_succ _),HB4.out.trans ((below_regrown w4 dq osq).mono HB4.out.size)⟩
theorem uses_of (op:Nat) (h:op=33∨op=35∨op=118) (w:World):Calls Tryz.prog 42 #[.int .u8 (op:Nat)] w fun e w'=>e=.returned (.int .i64 0)/\Below w.heap.size w w':=by
 have ob:op<256:=by omega
 have HC:=LH (fun W=>condI80_any op ob W)
 have HS:=LH (fun W=>size80_any op ob W)
 rw [show condI80 op = -1 by rcases h with rfl | rfl | rfl <;> decide] at HC
 have hz:size80 op≠0:=by rcases h with rfl | rfl | rfl <;> decide
 generalize size80 op=z at *
 have e0:((z:Int) == 0)=false:=by rw [beq_eq_false_iff_ne];omega
 clear hz ob
 rcases h with rfl | rfl | rfl
 all_goals (
  go_enter Tryz.func42, Tryz.ntmps42
  go_wp2_with fail
  refine (HC.out _).mono ?_
  rintro e w1 ⟨rfl,rfl⟩
  go_wp2_with fail
  refine (HS.out _).mono ?_
  rintro e w1 ⟨rfl,hb⟩
  go_wp2_with fail
  go_ret
  exact ⟨rfl,hb⟩)
theorem sets_of (op:Nat) (h:op=33∨op=35∨op=118) (w:World):Calls Tryz.prog 43 #[.int .u8 (op:Nat)] w fun e w'=>e=.returned (.int .i64 0)/\Below w.heap.size w w':=by
 have ob:op<256:=by omega
 have HS:=LH (fun W=>size80_any op ob W)
 have hz:size80 op≠0:=by rcases h with rfl | rfl | rfl <;> decide
 generalize size80 op=z at *
 have e0:((z:Int) == 0)=false:=by rw [beq_eq_false_iff_ne];omega
 clear hz ob
 rcases h with rfl | rfl | rfl
 all_goals (
  go_enter Tryz.func43, Tryz.ntmps43
  go_wp2_with fail
  refine (HS.out _).mono ?_
  rintro e w1 ⟨rfl,hb⟩
  go_wp2_with fail
  go_ret
  exact ⟨rfl,hb⟩)
theorem lv1_any (a b:Nd) (w:World):Calls Tryz.prog 40 #[ndV a,ndV b] w fun e w'=>e=.returned (.int .i64 (cmpN a.pl b.pl))/\Below w.heap.size w w':=by
 have H1:=LH (fun W=>cmp16_any a.pl b.pl W)
 have hb:=((Below.refl w.heap.size w).alloc (Nat.le_refl _) (.cells #[.int .u16 (a.pl:Nat),.int .u8 (a.op:Nat),.int .u16 (a.n:Nat)] 58)).alloc (by simp) (.cells #[.int .u16 (b.pl:Nat),.int .u8 (b.op:Nat),.int .u16 (b.n:Nat)] 58)
 unfold ndV
 go_enter Tryz.func40, Tryz.ntmps40
 go_wp2_with fail
 refine (H1.out _).mono ?_
 rintro e w1 ⟨rfl,rfl⟩
 go_wp2_with fail
 go_ret
 exact ⟨rfl,hb⟩
theorem lv1_enter (args:Array Value) (W:World):(callFunc 40 args).run Tryz.prog W=.ok (.enter 40 args) W:=enters_of Tryz.func40 (by kernel_rfl) rfl args W
theorem issort_any (l:List Nd) (v:Value) (w:World) (hv:NdR w w.heap.size v l) (h0:0<l.length) (hl:l.length<=1000) (hr:Rise l) :
  Calls Tryz.prog 39 #[v,.func (.func 40) #[] #[]] w fun e w'=>e=.returned (.bool true)/\Below w.heap.size w w':=by
 obtain ⟨A,c,rfl,hc,_⟩:=id hv
 have HV:=LH hv
 have HR:=LH hr
 have HN:=LH (fun a b W=>lv1_any a b W)
 have hn1:=lv1_enter
 have i0:IntKind.i64.wrap ((l.length:Int) - 1)=((l.length - 1:Nat):Int):=by rw [IntWalk.i64_in _ (by omega)];omega
 clear hv hr
 go_enter Tryz.func39, Tryz.ntmps39
 go_wp2_with fail
 go_loopw [5] (fun i wr=>∃ k:Nat,k<l.length/\i=.int .i64 k/\Below w.heap.size w wr) (fun i _=>(intOf i).toNat)
 case atStart=>exact ⟨l.length - 1,by omega,rfl,Below.refl _ _⟩
 case round=>
  obtain ⟨k,hk,rfl,hb⟩:=hrel
  have hsz:=hb.size
  by_cases hlt:0<k
  ·have i1:(k:Int)<(l.length:Int):=by omega
   have i2:(0:Int)<(k:Int):=by omega
   obtain ⟨g,o,rfl,hg,a0,a1,a2⟩:=HV.out.get k hk
   obtain ⟨g',o',e1,_,b0,b1,b2⟩:=HV.out.get (k - 1) (by omega)
   injection e1 with e1
   injection e1 with e1 e2
   subst e1 e2
   have d0:=(hb.cell (p:=⟨g,o+k * 3,none⟩) hg).trans a0
   have d1:=(hb.cell (p:=⟨g,o+k * 3+1,none⟩) hg).trans a1
   have d2:=(hb.cell (p:=⟨g,o+k * 3+2,none⟩) hg).trans a2
   have q0:=(hb.cell (p:=⟨g,o+(k - 1) * 3,none⟩) hg).trans b0
   have q1:=(hb.cell (p:=⟨g,o+(k - 1) * 3+1,none⟩) hg).trans b1
   have q2:=(hb.cell (p:=⟨g,o+(k - 1) * 3+2,none⟩) hg).trans b2
   have hle:l[k - 1].pl<=l[k].pl:=by
    have:=HR.out (k - 1) (by omega)
    simpa [show k - 1+1=k by omega] using this
   have HC:=LH (HN.out l[k] l[k - 1])
   have hcv:cmpN l[k].pl l[k - 1].pl=0∨cmpN l[k].pl l[k - 1].pl=1:=by unfold cmpN;rw [if_neg (by omega)];split <;> simp
   unfold ndV at HC
   generalize cmpN l[k].pl l[k - 1].pl=cv at *
   generalize l[k]=x at *
   generalize l[k - 1]=y at *
   obtain ⟨k',rfl⟩:∃ k',k=k'+1:=⟨k - 1,by omega⟩
   rw [show k'+1 - 1=k' by omega] at q0 q1 q2
   clear a0 a1 a2 b0 b1 b2 hle
   have i3:(0:Int)<((k'+1:Nat):Int):=by omega
   have i4:(k':Int)+1<(l.length:Int):=by omega
   have i6:(k':Int)<(l.length:Int):=by omega
   have i7:(0:Int)<=(k':Int)+1:=by omega
   have i8:((k':Int)+1).toNat=k'+1:=by omega
   have i9:(0:Int)<(k':Int)+1:=by omega
   have i5:IntKind.i64.wrap (k':Int)=(k':Int):=IntWalk.i64_in _ (by omega)
   have e1:decide (cv<0)=false:=by rcases hcv with rfl | rfl <;> rfl
   have e2:¬ cv<0:=by rcases hcv with rfl | rfl <;> decide
   have cC:∀ d' os,Calls Tryz.prog 40 #[.agg #[.int .u16 (x.pl:Nat),.int .u8 (x.op:Nat),.int .u16 (x.n:Nat)],.agg #[.int .u16 (y.pl:Nat),.int .u8 (y.op:Nat),.int .u16 (y.n:Nat)]] (Go.Sort.grow (redrawn wr d') os) fun e w''=>e=.returned (.int .i64 cv)/\∃ p:Regrown,w''=Go.Sort.grow (redrawn wr p.d) p.os:=fun d' os=>Calls.regrown_of (HC.out _)
   have CC:=LH cC
   have j0:=cell_regrown d0
   have j1:=cell_regrown d1
   have j2:=cell_regrown d2
   have p0:=cell_regrown q0
   have p1:=cell_regrown q1
   have p2:=cell_regrown q2
   clear hcv
   clear cC HC d0 d1 d2 q0 q1 q2 i1 i2 i3
   go_wp2_with fail
   refine wp_region_quiet_below (by kernel_rfl) (by kernel_rfl) ?_
   repeat (quiet_step (first | (go_at_call 40;exact CC.out _ _) | fail))
   refine wpQuiet_nil ?_
   intro _ hw'
   obtain ⟨⟨dq,osq⟩,hw''⟩:=hw'
   subst hw''
   have B2:=LH (bthen hb (below_regrown wr dq osq))
   clear j0 j1 j2 p0 p1 p2 CC
   generalize Go.Sort.grow (redrawn wr dq) osq=w2 at *
   go_wp2_with fail
   go_roundw
   case rel=>exact ⟨k',by omega,by go_num,B2.out⟩
   case measure=>simp [intOf]
  ·obtain rfl:k=0:=by omega
   go_wp2_with fail
   go_ret
   exact ⟨rfl,hb⟩
end Go.Proofs.YtbdnbfacalfciaaGreatDoor
