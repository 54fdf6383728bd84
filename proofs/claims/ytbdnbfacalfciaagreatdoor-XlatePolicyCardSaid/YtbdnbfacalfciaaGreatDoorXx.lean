/- Xx. -/
import Derived.StillTail
import Derived.StillTactics
import Derived.KernelRfl
import Derived.Test.YtbdnbfacalfciaaGreatDoorXt
import Derived.Test.YtbdnbfacalfciaaGreatDoorXl17
import Derived.Test.YtbdnbfacalfciaaGreatDoorXr
import Derived.Test.YtbdnbfacalfciaaGreatDoorXm
import Derived.Test.YtbdnbfacalfciaaGreatDoorUa
import Derived.Deep.RegionHeld3
import Derived.Test.YtbdnbfacalfciaaGreatDoorXw
import Derived.Test.YtbdnbfacalfciaaGreatDoorLs
namespace Go.Proofs.YtbdnbfacalfciaaGreatDoor
section
variable {P:Program} {ops:Array Oper} {md:Region.Mode} {w:World}
def behindB (md:Region.Mode) (ops:Array Oper) (n:Nat):Bool:=
 (List.range ops.size).all fun t=>decide (t<=n) || (List.range t).any fun i=>decide (n<=i) && Region.waitsFor md ops t i
def midFrom (md:Region.Mode) (ops:Array Oper) (g:Nat):Nat->Nat->Array Bool->Bool
 | 0,k,listed=>decide (Region.ready md ops listed = [k]) && Region.lexFrom md ops g (k+1) (listed.setIfInBounds k true)
 | f+1,k,listed=>(Region.ready md ops listed).contains k && Region.free md ops listed k && midFrom md ops g f (k+1) (listed.setIfInBounds k true)
def midB (md:Region.Mode) (ops:Array Oper) (n:Nat):Bool:=
 Region.noSelect ops && decide (n<ops.size) && Region.sinkB md ops n && behindB md ops n && midFrom md ops (ops.size - n - 1) n 0 (Array.replicate ops.size false)
theorem ahead_taken {n:Nat} {listed:Array Bool} (hs:Region.sinkB md ops n=true) (inv:HeadInv md ops n listed) (hr:n∈Region.ready md ops listed) :
  ∀ d i,n - i=d->i<n->listed.getD i false=true:=by
 intro d
 induction d using Nat.strongRecOn with
 | _ d ih=>
  intro i hd hi
  obtain ⟨_,on,hon,hall⟩:=mem_ready.1 hr
  obtain ⟨j,hj,hj2⟩:=List.any_eq_true.1 (List.all_eq_true.1 hs i (List.mem_range.2 hi))
  simp only [Bool.and_eq_true,decide_eq_true_eq] at hj2
  obtain ⟨oj,hoj,e,he,hb,hei⟩:=Region.waitsFor_spec hj2.2
  have hjn:j<n+1:=List.mem_range.1 hj
  rcases Nat.lt_or_ge j n with h | h
  ·have:=inv.closed j oj hoj (ih (n - j) (by omega) j rfl h) e he hb
   rwa [hei] at this
  ·obtain rfl:j=n:=by omega
   obtain rfl:oj=on:=Option.some.inj (hoj.symm.trans hon)
   have:=hall e he hb
   rwa [hei] at this
theorem none_behind {n:Nat} {listed:Array Bool} (hs:Region.sinkB md ops n=true) (hc:behindB md ops n=true) (inv:HeadInv md ops n listed) (i:Nat) (hi:i<n) (hun:listed.getD i true=false) :
  ∀ t,n<=t->t∉Region.ready md ops listed:=by
 intro t ht hr
 rcases Nat.eq_or_lt_of_le ht with rfl | hlt
 ·have:=ahead_taken hs inv hr (n - i) i rfl hi
  rw [getD_both hun] at this
  cases this
 ·obtain ⟨_,ot,hot,hall⟩:=mem_ready.1 hr
  have htl:t<ops.size:=(Array.getElem?_eq_some_iff.1 hot).1
  have h1:=List.all_eq_true.1 hc t (List.mem_range.2 htl)
  simp only [Bool.or_eq_true,decide_eq_true_eq] at h1
  rcases h1 with h1 | h1
  ·omega
  ·obtain ⟨k,hk,hk2⟩:=List.any_eq_true.1 h1
   simp only [Bool.and_eq_true,decide_eq_true_eq] at hk2
   have hkt:k<t:=List.mem_range.1 hk
   obtain ⟨o',ho',e,he,hb,hon⟩:=Region.waitsFor_spec hk2.2
   obtain rfl:o'=ot:=Option.some.inj (ho'.symm.trans hot)
   have h2:=hall e he hb
   rw [hon,getD_both (inv.tail k hk2.1 (by omega))] at h2
   cases h2
theorem mid_first {n i:Nat} {oi:Oper} {v:Value} {L:Array Bool->Act->Prop} (hi:ops[i]? = some oi) (hsel:∀ (j:Nat) (o:Oper) cs b,ops[j]? = some o->o.op≠.select cs b)
  (hs:Region.sinkB md ops n=true) (hc:behindB md ops n=true) (hin:i<n) (hdone:∀ listed a,L listed a->∀ j∈Region.ready md ops listed,n<=j) :
  ∀ (f:Nat) (listed:Array Bool) (a:Act),HeadInv md ops n listed ->
   (∀ j oj,ops[j]? = some oj->j≠i->listed.getD j true=false->(∀ e∈oj.after,Region.binds md e=true->e.on≠i)->oi.apart ops oj=true) ->
   i∈Region.ready md ops listed->YieldsAt P ops w oi v a ->
   wpAnyL P md ops w n L f (listed.setIfInBounds i true) (a.put oi.dst v)->wpAnyL P md ops w n L (f+1) listed a:=by
 intro f
 induction f with
 | zero=>
  intro listed a inv _ hr hy H
  have hun:=(mem_ready.1 hr).1
  refine ⟨List.ne_nil_of_mem hr,fun j hj=>?_⟩
  have hjn:j<n:=Nat.lt_of_not_le fun h=>none_behind hs hc inv i hin hun j h hj
  refine ⟨hjn,?_⟩
  by_cases hji:j=i
  ·subst hji;exact hy.stOp hi H
  ·exact absurd (hdone _ _ H j (ready_mono hj hji)) (by omega)
 | succ f ih=>
  intro listed a inv hfree hr hy H
  have hun:=(mem_ready.1 hr).1
  refine ⟨List.ne_nil_of_mem hr,fun j hj=>?_⟩
  have hjn:j<n:=Nat.lt_of_not_le fun h=>none_behind hs hc inv i hin hun j h hj
  refine ⟨hjn,?_⟩
  by_cases hji:j=i
  ·subst hji;exact hy.stOp hi H
  ·obtain ⟨hjun,oj,hoj,hall⟩:=mem_ready.1 hj
   have hnot:∀ e∈oj.after,Region.binds md e=true->e.on≠i:=fun e he hb heq=>by
    have:=hall e he hb
    rw [heq,getD_both hun] at this
    cases this
   have h1:=(H.2 j (ready_mono hj hji)).2
   have h2:=stOp_put hoj (hfree j oj hoj hji hjun hnot) (fun cs b=>hsel i oi cs b hi) (fun cs b=>hsel j oj cs b hoj) hy h1
   refine stOp_mono (fun a' h3=>ih (listed.setIfInBounds j true) a' (inv.set hj hjn) (fun k ok hk hki hkun hno=>hfree k ok hk hki ?_ hno) (ready_mono hr (Ne.symm hji)) h3.1 ?_) h2
   ·by_cases hjk:j=k
    ·subst hjk;exact hjun
    ·rwa [getD_set_ne true hjk] at hkun
   ·rw [Array.setIfInBounds_comm _ _ hji]
    exact h3.2
theorem mid_ready {g k:Nat} {listed:Array Bool} (h:(decide (Region.ready md ops listed = [k]) && Region.lexFrom md ops g (k+1) (listed.setIfInBounds k true))=true):∀ j∈Region.ready md ops listed,k<=j:=by
 intro j hj
 simp only [Bool.and_eq_true,decide_eq_true_eq] at h
 rw [h.1] at hj
 have:j=k:=by simpa using hj
 omega
theorem mid_lex {n g:Nat} {Lq:Act->Prop} (hsel:Region.noSelect ops=true) (hs:Region.sinkB md ops n=true) (hc:behindB md ops n=true) :
  ∀ (l:List Oper) (k:Nat) (listed:Array Bool) (a:Act),(∀ j,j<l.length->l[j]? = ops[k+j]?)->k+l.length=n->HeadInv md ops n listed ->
  midFrom md ops g l.length k listed=true->wpStill P ops w Lq l a ->
  wpAnyL P md ops w n (fun listed' a'=>(decide (Region.ready md ops listed' = [n]) && Region.lexFrom md ops g (n+1) (listed'.setIfInBounds n true))=true/\Lq a') l.length listed a
 | [],k,listed,a,_,hk,_,hB,h=>by
  obtain rfl:k=n:=by simpa using hk
  exact ⟨by simpa [midFrom] using hB,h⟩
 | o :: l,k,listed,a,hl,hk,inv,hB,h=>by
  have h0:ops[k]? = some o:=by simpa using (hl 0 (by simp)).symm
  simp only [List.length_cons,midFrom,Bool.and_eq_true] at hB
  obtain ⟨⟨hr,hf⟩,hB'⟩:=hB
  have hkn:k<n:=by simp only [List.length_cons] at hk;omega
  have hr':k∈Region.ready md ops listed:=by simpa using hr
  have hst:stOp P ops w k (wpStill P ops w Lq l) a:=by unfold stOp;simp only [h0];exact h
  obtain ⟨v,hy,hK⟩:=yieldsAt_of_stOp h0 hst
  exact mid_first h0 (Region.noSelect_spec hsel) hs hc hkn (fun listed' a' hL=>mid_ready hL.1) l.length listed a inv (Region.free_spec h0 hf) hr' hy
   (mid_lex hsel hs hc l (k+1) _ _ (fun j hj=>by have:=hl (j+1) (by simp;omega);simpa [Nat.add_assoc,Nat.add_comm 1 j] using this) (by simp only [List.length_cons] at hk;omega) (inv.set hr' hkn) hB' hK)
theorem wp_region_mid {id:Nat} {Q:Exit->Act->World->Prop} {a:Act} {w:World} {l:List Oper} (n:Nat) (o:Oper) (ho:l[n]? = some o) (hm:P.follows .mixedOrders=true) (hB:midB .any l.toArray n=true)
  (h:wpStill P l.toArray { w with drawn:=w.drawn+1 } (fun a'=>Region.wanted o (yielded l.toArray a'.tmps)=true/\o.wp P a' { w with drawn:=w.drawn+1 } (fun a'' w''=>wpStill P l.toArray w'' (fun a3=>Q .normal a3 w'') (l.drop (n+1)) a'') Q) (l.take n) a):(Code.region id l.toArray true).wp P Q a w:=by
 simp only [midB,Bool.and_eq_true,decide_eq_true_eq] at hB
 obtain ⟨⟨⟨⟨hsel,hn⟩,hs⟩,hc⟩,hlex⟩:=hB
 have hn':n<l.length:=by simpa using hn
 have htl:(l.take n).length=n:=by simp;omega
 have hdl:(l.drop (n+1)).length=l.toArray.size - n - 1:=by simp;omega
 have inv0:HeadInv .any l.toArray n (Array.replicate l.toArray.size false):=
  ⟨by simp,fun j oj _ hl=>(by rw [getD_replicate_false] at hl;cases hl),fun t _ ht=>getD_in (by simpa using ht) (getD_replicate_false _ _)⟩
 have H:=mid_lex (md:=.any) (g:=l.toArray.size - n - 1) hsel hs hc (l.take n) 0 _ a (fun j hj=>by
  have hj':j<n:=by rw [htl] at hj;exact hj
  simp [hj']) (by simpa using htl) inv0 (by rw [htl];exact hlex) h
 refine wp_region_any hm ?_
 have K:=wpAny_of_head (Q':=Q) (g:=(l.drop (n+1)).length+1) (fun listed a' hL=>by
  obtain ⟨h1,hw,h2⟩:=hL
  simp only [Bool.and_eq_true,decide_eq_true_eq] at h1
  refine ⟨fun h0=>(by rw [h1.1] at h0;cases h0),fun i hi=>?_⟩
  rw [h1.1] at hi
  obtain rfl:i=n:=by simpa using hi
  have hon:l.toArray[i]? = some o:=by simpa using ho
  unfold wpOp
  simp only [hon]
  rw [if_pos hw]
  refine .inl (Oper.wp_mono (fun a'' w'' h3=>?_) h2)
  exact wpAny_of_still (Q:=fun a3=>Q .normal a3 w'') (fun _ h=>h) _ _ _ (wpAnyS_lex hsel (l.drop (i+1)) (i+1) _ a'' (fun j=>by simp [List.getElem?_drop]) (by rw [hdl];exact h1.2) h3)) _ _ _ H
 rw [htl,hdl,show n+(l.toArray.size - n - 1+1)=l.toArray.size by omega] at K
 exact K
theorem wp_region_mid2 {id:Nat} {Q:Exit->Act->World->Prop} {a:Act} {w:World} {l:List Oper} (n:Nat) (o:Oper) (ho:l[n]? = some o) (hm:P.follows .mixedOrders=true) (hB:midB .any l.toArray n=true)
  (h:wpStill P l.toArray w.drew (fun a'=>Region.wanted o (yielded l.toArray a'.tmps)=true/\∀ K:Act->World->Prop,(∀ a'' w'',wpStill P l.toArray w'' (fun a3=>Q .normal a3 w'') (l.drop (n+1)) a''->K a'' w'')->o.wp P a' w.drew K Q) (l.take n) a):(Code.region id l.toArray true).wp P Q a w:=by
 refine wp_region_mid n o ho hm hB ?_
 have key:∀ (l':List Oper) (b:Act) (Q1 Q2:Act->Prop),(∀ b,Q1 b->Q2 b)->wpStill P l.toArray w.drew Q1 l' b->wpStill P l.toArray w.drew Q2 l' b:=by
  intro l'
  induction l' with
  | nil=>intro b Q1 Q2 hq h;exact hq b h
  | cons o' l' ih=>
   intro b Q1 Q2 hq h
   unfold wpStill at h ⊢
   split
   ·rename_i hw;rw [if_pos hw] at h;exact Oper.still_mono (fun b' hb'=>ih b' Q1 Q2 hq hb') h
   ·rename_i hw;rw [if_neg hw] at h;exact ih _ Q1 Q2 hq h
 exact key _ _ _ _ (fun b hb=>⟨hb.1,hb.2 _ (fun _ _ h=>h)⟩) h
end
open Go.RowKit
def outX (a b:Nd) (f:St) (r:List St) (en:Nat):List St:=(⟨labelD a.pl,true,f.op,f.args⟩ :: r)++[⟨labelD b.pl,true,[72,76,84],[]⟩]++[⟨[],false,[69,78,68],[nameA (labelD en)]⟩]
def showX:List St->List UInt8->List UInt8
 | [],acc=>acc
 | s :: l,acc=>showX l (acc++((showS 2 s).1++[10]))
structure XGood (nds:List Nd) (en:Nat) (a b:Nd) (f:St) (r:List St) (txt:List UInt8):Prop where
 nd:nds = [a,b]
 oa:a.op=33∨a.op=35
 ob:b.op=118
 nb:b.n=0
 nx:a.pl+size80 a.op=b.pl
 pb:b.pl<=65000
 na:a.n<=65535
 ins:∀ W,Calls Tryz.prog 13 #[.int .u8 (a.op:Nat),.int .u16 (a.n:Nat),.int .i64 31] W fun e w'=>∃ v' vs,e=.returned (.tuple #[v',.int .i64 0])/\StOwn w' W.heap.size v' (f :: r) vs/\Below W.heap.size W w'
 few:r.length<=10
 fit:∀ s∈outX a b f r en,fitS s
 tx:showX (outX a b f r en) []=txt
 ne:txt≠[]
 asm:∀ W,GWL W->Calls Tryz.prog 21 #[.string ⟨txt.toArray⟩] W (A86P W 0 0)
def XsP (w:World) (ln k:Nat) (txt:List UInt8) (e:Ending) (w':World):Prop:=∃ (s:List UInt8) (A1:Option Addr) (n1 c1:Nat) (A2:Option Addr) (n2 c2:Nat),
 e=.returned (.tuple #[.agg #[.string ⟨s.toArray⟩,.slice A1 n1 c1,.slice A2 n2 c2],.agg #[.int .i64 ln,.int .i64 k]])/\(k=0->s=txt)/\Below w.heap.size w w'
theorem shwx_small (d:Int) (s:St):(showS d s).1.length<=200:=by
 unfold showS
 split
 ·simp
 ·split
  ·simp
  ·simp only;omega
theorem isbx_keep {w w':World} {B b:Nat} {bs:List Value} (h:Lib.IsBuilder 77 5 B b bs w) (hb:Below w.heap.size w w'):Lib.IsBuilder 77 5 B b bs w':=by
 rcases h with h | h
 ·obtain ⟨h1,v,h2,h3,h4⟩:=h
  exact .inl ⟨h1,v,(hb.block b (loh h2)).trans h2,own_bel h3 hb,h4⟩
 ·obtain ⟨h1,v,h2,h3,h4⟩:=h
  exact .inr ⟨h1,v,(hb.block b (loh h2)).trans h2,own_bel h3 hb,h4⟩
theorem own_belF {w w':World} {base size n:Nat} {e:TypeId} {v:Value} {xs:List Value} (h:w.ownsRowF base e size v n xs) (hb:Below w.heap.size w w'):w'.ownsRowF base e size v n xs:=
 ⟨h.1,h.2.imp id fun ⟨g,cap,cur,fz,h1,h2,h3,h4⟩=>⟨g,cap,cur,fz,h1,h2,(hb.block g (loh h3)).trans h3,h4⟩⟩
theorem isbF_keep {w w':World} {B b:Nat} {bs:List Value} (h:Lib.IsBuilderF 77 5 B b bs w) (hb:Below w.heap.size w w'):Lib.IsBuilderF 77 5 B b bs w':=by
 rcases h with h | h
 ·obtain ⟨h1,v,h2,h3,h4⟩:=h
  exact .inl ⟨h1,v,(hb.block b (loh h2)).trans h2,own_belF h3 hb,h4⟩
 ·obtain ⟨h1,v,h2,h3,h4⟩:=h
  exact .inr ⟨h1,v,(hb.block b (loh h2)).trans h2,own_belF h3 hb,h4⟩
theorem showX_at (l:List St) (k:Nat) (hk:k<l.length) (acc:List UInt8):showX (l.drop k) acc=showX (l.drop (k+1)) (acc++((showS 2 l[k]).1++[10])):=by
 rw [List.drop_eq_getElem_cons hk]
 rfl
def ShI (w wq:World) (S:Nat) (L:List St) (txt:List UInt8) (k:Nat) (wr:World):Prop:=
 ∃ acc,Lib.IsBuilder 77 5 S S (Lib.byteCells acc) wr/\showX (L.drop k) acc=txt/\acc.length<=k * 300/\Below S wq wr/\S<wr.heap.size/\Below w.heap.size w wr
set_option maxHeartbeats 16000000 in
set_option maxRecDepth 100000 in
theorem xsrc_any (s txt:List UInt8) (ln k:Nat) (hz:(asmF fd80 0 s).2=(0,0)) (hx:XOk (asmF fd80 0 s).1 (srcS 0 s).1 (ln,k)) (hgd:k=0->ln=0/\∃ a b f r,XGood (nodesL (asmF fd80 0 s).1.lines) (asmF fd80 0 s).1.entry a b f r txt) (hl:s.length<=100000) (w:World) (hg:GWL w) :
  Calls Tryz.prog 4 #[.string ⟨s.toArray⟩,.bool false] w (XsP w ln k txt):=by
 have HA:=LH (fun W (hW:Below w.heap.size w W)=>asm_any s W (hg.below hW) hl)
 have HL:=LH (fun W (hW:Below w.heap.size w W)=>src12_any 0 s W (hg.below hW) hl _ rfl)
 have hlen:=src_len 0 s hl
 have HX:=LH hx
 have HGD:=LH hgd
 have HG:=LH hg
 generalize asmF fd80 0 s=R at *
 generalize srcS 0 s=res at *
 obtain ⟨eg,ln0,lk0⟩:=R
 obtain ⟨l,sn,sk⟩:=res
 simp only [Prod.mk.injEq] at hz hlen HX HGD
 obtain ⟨rfl,rfl⟩:=hz
 have hlen2:l.length<=1000000:=by omega
 have h1:(w.alloc (.cells #[.string ⟨#[]⟩,.slice none 0 0,.slice none 0 0] 26)).heap.size=w.heap.size+1:=by simp
 have p1:=heap_last h1 (.cells #[.int .i64 0,.int .i64 0] 29)
 have P1:=LH p1
 have P0:=LH ((Below.heap_alloc (w.alloc (.cells #[.string ⟨#[]⟩,.slice none 0 0,.slice none 0 0] 26)) (.cells #[.int .i64 0,.int .i64 0] 29) w.heap.size (by rw [h1];omega)).trans (heap_alloc_new w _))
 have B0:=LH (((Below.refl w.heap.size w).alloc (Nat.le_refl _) (.cells #[.string ⟨#[]⟩,.slice none 0 0,.slice none 0 0] 26)).alloc (by rw [h1];omega) (.cells #[.int .i64 0,.int .i64 0] 29))
 clear h1 p1 hx hl hg hgd
 go_enter Tryz.func4, Tryz.ntmps4
 go_wp2_with fail
 generalize (w.alloc (.cells #[.string ⟨#[]⟩,.slice none 0 0,.slice none 0 0] 26)).alloc (.cells #[.int .i64 0,.int .i64 0] 29)=w1 at *
 refine (HA.out _ B0.out).mono ?_
 rintro e w2 ⟨pa,nn,sA,sl,sc,lA,ll,lc,uA,ul,uc,rfl,hb2,hu⟩
 obtain ⟨rfl,hsy,vs,hli⟩:=hu rfl
 have HLN:=LH hli.lnr
 have HSY:=LH hsy
 have B2:=LH (bthen B0.out hb2)
 have P02:=LH ((hb2.block w.heap.size (loh P0.out)).trans P0.out)
 have P12:=LH ((hb2.block (w.heap.size+1) (loh P1.out)).trans P1.out)
 clear hb2 hu hsy hli HA P0 P1 B0
 simp only [show ((0:Nat):Int)=0 from rfl]
 go_wp2_with fail
 have h3:(w2.alloc (.cells #[.pointer pa,.int .u16 (eg.entry:Nat),.slice sA sl sc,.slice lA ll lc,.slice uA ul uc] 40)).heap.size=w2.heap.size+1:=by simp
 have A3:=LH ((Below.heap_alloc (w2.alloc (.cells #[.pointer pa,.int .u16 (eg.entry:Nat),.slice sA sl sc,.slice lA ll lc,.slice uA ul uc] 40)) (.cells #[.int .i64 0,.int .i64 0] 29) w2.heap.size (by rw [h3];omega)).trans (heap_alloc_new w2 _))
 have B23:=LH (((Below.refl w2.heap.size w2).alloc (Nat.le_refl _) (.cells #[.pointer pa,.int .u16 (eg.entry:Nat),.slice sA sl sc,.slice lA ll lc,.slice uA ul uc] 40)).alloc (by rw [h3];omega) (.cells #[.int .i64 0,.int .i64 0] 29))
 have hz23:=B23.out.size
 clear h3
 generalize (w2.alloc (.cells #[.pointer pa,.int .u16 (eg.entry:Nat),.slice sA sl sc,.slice lA ll lc,.slice uA ul uc] 40)).alloc (.cells #[.int .i64 0,.int .i64 0] 29)=w3 at *
 refine (HL.out _ (bthen B2.out B23.out)).mono ?_
 rintro e w4 ⟨v,rfl,hst,hb4⟩
 simp only at hst ⊢
 obtain ⟨SA,stc,rfl,_,_⟩:=hst.form
 have B24:=LH (bthen B23.out hb4)
 have A4:=LH ((hb4.block w2.heap.size (loh A3.out)).trans A3.out)
 have D5:=LH (B24.out.alloc B24.out.size (.cells #[.int .i64 sn,.int .i64 sk] 29))
 have A5:=LH ((Below.heap_alloc w4 (.cells #[.int .i64 sn,.int .i64 sk] 29) w2.heap.size (loh A4.out)).trans A4.out)
 have ST5:=LH (hst.keep (w':=w4.alloc (.cells #[.int .i64 sn,.int .i64 sk] 29)) (S':=(· < (w4.alloc (.cells #[.int .i64 sn,.int .i64 sk] 29)).heap.size)) (fun p hp=>World.cell?_alloc_lt _ _ _ hp.2) (fun g hg=>by have:=hg.2;simp;omega))
 have a0:=coh (i:=0) A5.out
 have a1:=coh (i:=1) A5.out
 have a2:=coh (i:=2) A5.out
 have a3:=coh (i:=3) A5.out
 have a4:=coh (i:=4) A5.out
 clear hst hb4 A3 A4 B23 B24 HL
 generalize hw5:w4.alloc (.cells #[.int .i64 sn,.int .i64 sk] 29)=w5 at *
 simp at a0 a1 a2 a3 a4
 have LN5:=LH (HLN.out.at D5.out D5.out.size)
 have SY5:=LH ((HSY.out.keep (fun q _ hq=>D5.out.block q hq)).mono (Nat.zero_le _))
 have hrd:=read_loop pa eg.entry sA sl sc (.slice lA ll lc) uA ul uc SA l.length stc eg.lines eg.syms w5 LN5.out SY5.out HX.out.rd HX.out.few HX.out.rise HX.out.sy
 have HRD:=LH hrd
 clear hrd
 subst hw5
 go_wp2_with fail
 refine HRD.out.mono ?_
 rintro e w6 ⟨p,hb,cb,nv,rfl,hprg,hnd,hset,⟨code,hcode,hmem⟩,hb6⟩
 generalize hw5:w4.alloc (.cells #[.int .i64 sn,.int .i64 sk] 29)=w5 at *
 obtain ⟨nA,nc,rfl,hnc⟩:=hnd.form
 have LN6:=LN5.out.at hb6 hb6.size
 have ST6:=ST5.out.keep (w':=w6) (S':=(· < w6.heap.size)) (fun q hq=>hb6.cell hq) (fun g hg=>Nat.lt_of_lt_of_le hg hb6.size)
 have hpr:=problem_any p hb cb (.pointer pa) eg.entry (.slice sA sl sc) (.slice lA ll lc) (.slice uA ul uc) (.slice SA l.length stc) nA (nodesL eg.lines).length nc eg.lines l (hasX eg.lines) code w6 hprg HX.out.en LN6 ST6 hset hcode HX.out.ln HX.out.st (by have:=HX.out.few;omega) hlen2
 rw [probX_same _ _ _ _ _ _ _ hmem,show (nodesL eg.lines).map (·.pl)=hasX eg.lines from rfl,HX.out.pr] at hpr
 have HPR:=LH hpr
 have B6:=LH (bthen B2.out (bthen D5.out hb6))
 have hw2:w.heap.size+1<w2.heap.size:=loh P12.out
 have P16:=LH (((bthen D5.out hb6).block (w.heap.size+1) hw2).trans P12.out)
 have P06:=LH (((bthen D5.out hb6).block w.heap.size (by omega)).trans P02.out)
 have HPG:=LH hprg
 have HND:=LH hnd
 have HSET:=LH hset
 subst hw5
 clear hpr LN6 ST6 hprg hnd hset hcode hmem hb6 HRD LN5 SY5 ST5 D5 A5 a0 a1 a2 a3 a4 HLN HSY P02 P12 B2
 go_wp2_with fail
 refine HPR.out.mono ?_
 rintro e w7 ⟨rfl,hb7⟩
 have B7:=LH (bthen B6.out hb7)
 have P17:=LH ((hb7.block _ (loh P16.out)).trans P16.out)
 have P07:=LH ((hb7.block _ (loh P06.out)).trans P06.out)
 have HPG7:=LH (HPG.out.at hb7)
 have HND7:=LH (Rd.more (Rd.below HND.out hb7) hb7.size)
 have HSET7:=LH (SetF.bel HSET.out hb7)
 have P18:=LH ((Below.heap_alloc w7 (.cells #[.int .i64 ln,.int .i64 k] 29) (w.heap.size+1) (loh P17.out)).trans P17.out)
 have P08:=LH ((Below.heap_alloc w7 (.cells #[.int .i64 ln,.int .i64 k] 29) w.heap.size (loh P07.out)).trans P07.out)
 have B8:=LH (B7.out.alloc B7.out.size (.cells #[.int .i64 ln,.int .i64 k] 29))
 have r0:=coh (i:=0) P08.out
 have r1:=coh (i:=1) P08.out
 have r2:=coh (i:=2) P08.out
 have t0:=foh (i:=0) P08.out
 have t1:=foh (i:=1) P08.out
 have t2:=foh (i:=2) P08.out
 have s0:=coh (i:=0) P18.out
 have s1:=coh (i:=1) P18.out
 have u0:=foh (i:=0) P18.out
 have u1:=foh (i:=1) P18.out
 have o0:=heap_alloc_new w7 (.cells #[.int .i64 ln,.int .i64 k] 29)
 have x0:=coh (i:=0) o0
 have x1:=coh (i:=1) o0
 have hw7:w.heap.size+1<w7.heap.size:=loh P17.out
 have n1:w7.heap.size≠w.heap.size:=by omega
 have n2:w7.heap.size≠w.heap.size+1:=by omega
 clear hb7 HPG HND HSET P16 P06 B6 P17 P07 HPR o0
 generalize hw8:w7.alloc (.cells #[.int .i64 ln,.int .i64 k] 29)=w8 at *
 simp at r0 r1 r2 t0 t1 t2 s0 s1 u0 u1 x0 x1
 subst hw8
 by_cases hk:k=0
 ·subst hk
  obtain ⟨rfl,a,b,f,r,G⟩:=HGD.out rfl
  simp only [show ((0:Nat):Int)=0 from rfl] at *
  have hn2:(nodesL eg.lines).length=2:=by rw [G.nd];rfl
  have hnd:nodesL eg.lines = [a,b]:=G.nd
  have GO:=LH G
  have HLV:=LH (fun W (hW:Below w7.heap.size w7 W)=>live_two a b (.slice nA 2 nc) W (by have:=Rd.more (Rd.below HND7.out hW) hW.size;rw [hnd] at this;exact this) G.oa G.ob G.nx (by have:=G.pb;omega))
  have c1:=coh (i:=5) HPG7.out
  simp only [hn2] at c1 ⊢
  simp at c1
  have c1a:=fun o=>new_keep (o:=o) c1
  have HPG8:=LH ((Below.heap_alloc w7 (.cells #[.int .i64 0,.int .i64 0] 29) p (loh HPG7.out)).trans HPG7.out)
  have BA:=LH ((Below.refl w7.heap.size w7).alloc (Nat.le_refl _) (.cells #[.int .i64 0,.int .i64 0] 29))
  have HSET8:=LH (SetF.bel HSET7.out BA.out)
  have HND8:=LH (Rd.more (Rd.below HND7.out BA.out) BA.out.size)
  clear r0 r1 r2 t0 t1 t2 s0 s1 u0 u1 x0 x1 hnd n1 n2 HPG7 HND7 HSET7 G HGD
  go_wp2_with fail
  refine (HLV.out _ BA.out).mono ?_
  rintro e w9 ⟨gl,cl,rfl,l0,l1,hgl8,hgl9,hb9⟩
  have P09:=LH ((hb9.block _ (loh P08.out)).trans P08.out)
  have P19:=LH ((hb9.block _ (loh P18.out)).trans P18.out)
  have PR9:=LH ((hb9.block _ (loh HPG8.out)).trans HPG8.out)
  have SE9:=LH (SetF.bel HSET8.out hb9)
  have ND9:=LH (Rd.more (Rd.below HND8.out hb9) hb9.size)
  have B9:=LH (B8.out.trans (hb9.mono B8.out.size))
  have hpl:p<w9.heap.size:=loh PR9.out
  have hbl:hb<w9.heap.size:=SE9.out.lt
  have hwl:w.heap.size+1<w9.heap.size:=loh P19.out
  have L0:=LH l0
  have L1:=LH l1
  clear hb9 P08 P18 HPG8 HSET8 HND8 B8 BA HLV c1 c1a l0 l1 hgl8 B7 hw7
  have hw9:(w7.alloc (.cells #[.int .i64 0,.int .i64 0] 29)).heap.size=w7.heap.size+1:=by simp
  have nd9:=ND9.out
  rw [GO.out.nd] at nd9
  obtain ⟨gn,on,rfl,hgn,a0,a1,a2⟩:=NdR.get nd9 0 (by simp)
  obtain ⟨g',o',e1,_,b0,b1,b2⟩:=NdR.get nd9 1 (by simp)
  injection e1 with e1
  injection e1 with e1 e2
  subst e1 e2
  simp only [List.getElem_cons_zero,List.getElem_cons_succ,Nat.zero_mul,Nat.add_zero,Nat.one_mul] at a0 a1 a2 b0 b1 b2
  have A0:=LH a0
  have A1:=LH a1
  have A2:=LH a2
  have B0':=LH b0
  have B1':=LH b1
  have B2':=LH b2
  clear nd9 a0 a1 a2 b0 b1 b2 ND9 hw9 hn2
  have c5:=coh (i:=5) PR9.out
  simp at c5
  have hlen:(nodesL eg.lines).length=2:=by rw [GO.out.nd];rfl
  rw [hlen] at c5
  have c5a:=fun o=>new_keep (o:=o) c5
  have q0:=fun o=>new_keep (o:=o) A0.out
  have q1:=fun o=>new_keep (o:=o) A1.out
  have q2:=fun o=>new_keep (o:=o) A2.out
  go_wp2_with fail
  refine wp_loop_rounds 3 ?_
  rw [rounds_succ]
  go_wp2_with fail
  have WW:=LH (WrAt.bel (w:=w9.alloc (.cells #[.slice none 0 0] 56)) (k:=w9.heap.size) (T:=56) (rest:=[]) (l:=[]) (v:=.slice none 0 0) ⟨heap_alloc_new w9 _,[],OwnV.nil _ _⟩ ((Below.refl _ _).alloc (Nat.le_refl _) (.cells #[.int .u16 (a.pl:Nat),.int .u8 (a.op:Nat),.int .u16 (a.n:Nat)] 58)))
  have NB:=LH (heap_last (w:=w9.alloc (.cells #[.slice none 0 0] 56)) (n:=w9.heap.size+1) (by simp) (.cells #[.int .u16 (a.pl:Nat),.int .u8 (a.op:Nat),.int .u16 (a.n:Nat)] 58))
  have BK:=LH (((Below.refl w9.heap.size w9).alloc (Nat.le_refl _) (.cells #[.slice none 0 0] 56)).alloc (by simp) (.cells #[.int .u16 (a.pl:Nat),.int .u8 (a.op:Nat),.int .u16 (a.n:Nat)] 58))
  generalize (w9.alloc (.cells #[.slice none 0 0] 56)).alloc (.cells #[.int .u16 (a.pl:Nat),.int .u8 (a.op:Nat),.int .u16 (a.n:Nat)] 58)=wx at *
  have x0:=coh (i:=0) NB.out
  have x1:=coh (i:=1) NB.out
  have x2:=coh (i:=2) NB.out
  have x3:=(BK.out.cell (p:=⟨gl,0,none⟩) hgl9).trans L0.out
  simp at x0 x1 x2
  have INS:=LH GO.out.ins
  refine wp_region_mid2 8 _ rfl (by kernel_rfl) (by kernel_rfl) ?_
  simp only [List.take_succ_cons,List.take_zero,List.drop_succ_cons,List.drop_zero]
  repeat still_step
  refine wpStill_nil ⟨rfl,?_⟩
  intro K hK
  go_simp
  refine (INS.out _).mono ?_
  rintro e wi ⟨v',vs,rfl,hso,hbi⟩
  obtain ⟨A',c',rfl,_,_,hr'⟩:=own_slice hso.2.1 (by decide)
  obtain ⟨gi,rfl,hgi,hgi2,_,hci⟩:=hr' (by simp)
  have hdx:wx.drew.heap.size=wx.heap.size:=rfl
  rw [hdx] at hso hbi hgi
  have hbi2:Below wx.heap.size wx wi:=((Below.refl wx.heap.size wx).drew).trans hbi
  have BKi:=LH (BK.out.trans (hbi2.mono BK.out.size))
  have NBi:=LH ((hbi2.block _ (loh NB.out)).trans NB.out)
  have WWi:=LH (WW.out.bel hbi2)
  have SOi:=LH hso
  have n0:=coh (i:=0) NBi.out
  simp at n0
  have HLB:=LH (fun W=>xlabel_any a.pl W)
  have hKx:w9.heap.size+1<wx.heap.size:=loh NB.out
  refine hK _ _ ?_
  clear hK K x0 x1 x2 x3 BK NB WW hso hbi hbi2 hci hr' hdx
  repeat still_step
  refine wpStill_nil ?_
  go_wp2_with fail
  refine (HLB.out _).mono ?_
  rintro e wj ⟨rfl,hbj⟩
  have BKj:=LH (BKi.out.trans (hbj.mono BKi.out.size))
  have NBj:=LH ((hbj.block _ (loh NBi.out)).trans NBi.out)
  have WWj:=LH (WWi.out.bel hbj)
  have SOj:=LH (OwnV.keep stSub_keep SOi.out hbj)
  obtain ⟨A2,c2,e2,_,_,hr2⟩:=own_slice SOj.out.2.1 (by decide)
  injection e2 with e2 _ e2'
  subst e2 e2'
  obtain ⟨g2,e2,_,_,_,hc2⟩:=hr2 (by simp)
  injection e2 with e2
  injection e2 with e2
  subst e2
  have y0:wj.cell? ⟨gi,0,none⟩=some (.string ⟨f.label.toArray⟩):=hc2 0 _ (by cases hvs:vs with | nil=>have:=SOj.out.1;rw [hvs] at this;simp at this | cons u us=>rfl)
  have y1:wj.cell? ⟨gi,1,none⟩=some (.bool f.colon):=hc2 1 _ (by cases hvs:vs with | nil=>have:=SOj.out.1;rw [hvs] at this;simp at this | cons u us=>rfl)
  have z0:wj.frozen? ⟨gi,0,none⟩=false:=own_free SOj.out.2.1
  have z1:wj.frozen? ⟨gi,1,none⟩=false:=own_free SOj.out.2.1
  clear hbj BKi NBi WWi SOi n0 hr2 hc2 HLB
  go_upto_region 18 with (fail)
  have SOl:=LH (stOwn_label (labelD a.pl) SOj.out)
  have BKl:=LH ((BKj.out.setCell (p:=⟨gi,0,none⟩) (by show w9.heap.size<=gi;omega) (.string ⟨(labelD a.pl).toArray⟩)).setCell (p:=⟨gi,1,none⟩) (by show w9.heap.size<=gi;omega) (.bool true))
  have NBl:=LH ((set_block (w:=wj.setCell ⟨gi,0,none⟩ (.string ⟨(labelD a.pl).toArray⟩)) (g:=gi) (i:=1) (u:=.bool true) (k:=w9.heap.size+1) (by omega)).trans ((set_block (w:=wj) (g:=gi) (i:=0) (u:=.string ⟨(labelD a.pl).toArray⟩) (k:=w9.heap.size+1) (by omega)).trans NBj.out))
  have WHl:=LH ((set_block (w:=wj.setCell ⟨gi,0,none⟩ (.string ⟨(labelD a.pl).toArray⟩)) (g:=gi) (i:=1) (u:=.bool true) (k:=w9.heap.size) (by omega)).trans ((set_block (w:=wj) (g:=gi) (i:=0) (u:=.string ⟨(labelD a.pl).toArray⟩) (k:=w9.heap.size) (by omega)).trans WWj.out.1))
  have hjl:wj.heap.size<=((wj.setCell ⟨gi,0,none⟩ (.string ⟨(labelD a.pl).toArray⟩)).setCell ⟨gi,1,none⟩ (.bool true)).heap.size:=by simp
  have hwj:w9.heap.size+1<wj.heap.size:=loh NBj.out
  clear SOj BKj NBj WWj y0 y1 z0 z1
  generalize (wj.setCell ⟨gi,0,none⟩ (.string ⟨(labelD a.pl).toArray⟩)).setCell ⟨gi,1,none⟩ (.bool true)=wl at *
  have y0:=coh (i:=0) WHl.out
  have z0:=foh (i:=0) WHl.out
  simp at y0 z0
  have hwl:w9.heap.size+1<wl.heap.size:=by omega
  have HRD:=LH (Rd.of_own SOl.out.2.1)
  have HONE:=LH (stOwn_one SOl.out)
  have hfew:=GO.out.few
  go_wp2_with (at_builtin;refine wpList_append_to _ rfl (.tmp 96) (.tmp 97) 43 rfl (w9.heap.size+1) 63 _ 4 64 Tryz.underlying43 info_st rfl (by omega) (World.ownsRow_nil _ _ _ _) rfl HRD.out rfl SOl.out.2.1.1 HONE.out (by simp;omega) (by omega) (by omega) ?_;intro v9 w10 hown9 hbel9 hg9 hv9;obtain ⟨A9,c9,rfl,_⟩:=own_slice hown9 (by decide);have NB10:=LH ((hg9.block (w9.heap.size+1) hwl (fun e=>by cases e)).trans NBl.out);have WH10:=LH ((hbel9.block w9.heap.size (by omega)).trans WHl.out);have BK10:=LH (BKl.out.trans (hbel9.mono (by omega)));have d0:=coh (i:=0) WH10.out;have e0:=foh (i:=0) WH10.out;have WR0:=LH (wr_more (w0:=wl) (K:=w9.heap.size) (T:=56) (rest:=[]) (l:=[]) (v:=.slice none 0 0) (vs:=[]) WHl.out (OwnV.nil _ _) SOl.out (by omega) (fun g hg=>by cases hg) hown9 hg9 hv9);have hz10:=hg9.size;simp at d0 e0;clear hown9 hbel9 hg9 hv9 HRD HONE y0 z0 WHl NBl SOl BKl)
  have WR1:=WR0.out
  rw [List.nil_append] at WR1
  have WR1:=LH WR1
  have NB11:=LH ((set_block (w:=w10) (g:=w9.heap.size) (i:=0) (u:=.slice A9 (0+(r.length+1)) c9) (k:=w9.heap.size+1) (by omega)).trans NB10.out)
  have BK11:=LH (BK10.out.setCell (p:=⟨w9.heap.size,0,none⟩) (Nat.le_refl _) (.slice A9 (0+(r.length+1)) c9))
  have hz11:w10.heap.size<=(w10.setCell ⟨w9.heap.size,0,none⟩ (.slice A9 (0+(r.length+1)) c9)).heap.size:=by simp
  simp only [List.length_cons,Nat.zero_add] at WR1 NB11 BK11 hz11
  clear WR0 NB10 WH10 BK10 d0 e0
  generalize w10.setCell ⟨w9.heap.size,0,none⟩ (.slice A9 (r.length+1) c9)=w11 at *
  have x0:=coh (i:=0) NB11.out
  have x1:=coh (i:=1) NB11.out
  simp at x0 x1
  have hoa:a.op<256:=by rcases GO.out.oa with e | e <;> omega
  have CH:=LH (fun d' os=>Calls.regrown_of (size80_any a.op hoa (Go.Sort.grow (redrawn w11 d') os)))
  have hnx:=GO.out.nx
  have hpb:=GO.out.pb
  obtain ⟨za,hza⟩:∃ z,size80 a.op=z:=⟨_,rfl⟩
  rw [hza] at CH hnx
  have w3':IntKind.u16.wrap (za:Int)=(za:Int):=IntWalk.u16_in _ (by omega)
  have w4':IntKind.u16.wrap ((a.pl:Int)+(za:Int))=(b.pl:Int):=by rw [IntWalk.u16_in _ (by omega)];omega
  have j0:=cell_regrown x0
  have j1:=cell_regrown x1
  clear x0 x1 hza
  refine wp_region_quiet_below (by kernel_rfl) (by kernel_rfl) ?_
  repeat (quiet_step (first | (go_at_call 14;exact CH.out _ _)))
  refine wpQuiet_nil ?_
  intro _ hw'
  obtain ⟨⟨dq,osq⟩,hw''⟩:=hw'
  subst hw''
  have BQ:=below_regrown w11 dq osq
  have BK12:=LH (BK11.out.trans (BQ.mono BK11.out.size))
  have NB12:=LH ((BQ.block _ (loh NB11.out)).trans NB11.out)
  have WR12:=LH (WR1.out.bel BQ)
  clear BQ CH j0 j1 w3' w4' BK11 NB11 WR1
  generalize Go.Sort.grow (redrawn w11 dq) osq=w12 at *
  have HEN:=LH (fun W=>ends_any a.op W)
  rw [show ends80 a.op=false by rcases GO.out.oa with e | e <;> rw [e] <;> decide] at HEN
  have x1:=coh (i:=1) NB12.out
  simp at x1
  have hin:b.pl∈(nodesL eg.lines).map (·.pl):=by rw [GO.out.nd];simp
  have HIN:=LH hin
  clear hin
  go_wp2_with fail
  refine (HEN.out _).mono ?_
  rintro e w13 ⟨rfl,hb13⟩
  have BK13:=LH (BK12.out.trans (hb13.mono BK12.out.size))
  have WR13:=LH (WR12.out.bel hb13)
  have PR13:=(BK13.out.block p hpl).trans PR9.out
  have p5:=coh (i:=5) PR13
  have p6:=coh (i:=6) PR13
  have lk:=SetU.at (SetF.keep SE9.out (BK13.out.block hb hbl)) b.pl (by omega)
  rw [decide_eq_true HIN.out] at lk
  have n3:=(BK13.out.cell (p:=⟨gn,on+3,none⟩) hgn).trans B0'.out
  simp at p5 p6
  rw [hlen] at p5
  have nn:((b.pl:Int) != (b.pl:Int))=false:=by simp
  clear hb13 BK12 NB12 WR12 PR13 x1 HEN
  go_wp2_with fail
  clear lk n3 nn p6 q0 q1 q2 hwl hwj hjl hz10 hz11
  have r0:=fun o=>new_keep (o:=o) ((BK13.out.cell (p:=⟨gn,on+3,none⟩) hgn).trans B0'.out)
  have r1:=fun o=>new_keep (o:=o) ((BK13.out.cell (p:=⟨gn,on+3+1,none⟩) hgn).trans B1'.out)
  have r2:=fun o=>new_keep (o:=o) ((BK13.out.cell (p:=⟨gn,on+3+2,none⟩) hgn).trans B2'.out)
  have r3:=(BK13.out.cell (p:=⟨gn,on+3,none⟩) hgn).trans B0'.out
  have r4:=(BK13.out.cell (p:=⟨gn,on+3+1,none⟩) hgn).trans B1'.out
  have r5:=(BK13.out.cell (p:=⟨gn,on+3+2,none⟩) hgn).trans B2'.out
  rw [rounds_succ]
  go_wp2_with fail
  have WW2:=LH (WR13.out.bel ((Below.refl w13.heap.size w13).alloc (Nat.le_refl _) (.cells #[.int .u16 (b.pl:Nat),.int .u8 (b.op:Nat),.int .u16 (b.n:Nat)] 58)))
  have NB2:=LH (heap_alloc_new w13 (.cells #[.int .u16 (b.pl:Nat),.int .u8 (b.op:Nat),.int .u16 (b.n:Nat)] 58))
  have BK2:=LH (BK13.out.alloc BK13.out.size (.cells #[.int .u16 (b.pl:Nat),.int .u8 (b.op:Nat),.int .u16 (b.n:Nat)] 58))
  have HVL:Hid (∀ g,(Value.slice A9 (r.length+1) c9).ownBlock=some g->g<w13.heap.size):=LH (fun g hg=>by obtain ⟨_,vs',h⟩:=WR13.out;exact (h.2.1.lt g hg).2)
  have hK13:w9.heap.size<w13.heap.size:=loh WR13.out.1
  clear r0 r1 r2 r3 r4 r5 p5 WR13 BK13
  generalize w13.alloc (.cells #[.int .u16 (b.pl:Nat),.int .u8 (b.op:Nat),.int .u16 (b.n:Nat)] 58)=wy at *
  generalize w13.heap.size=M at *
  have x0:=coh (i:=0) NB2.out
  have x1:=coh (i:=1) NB2.out
  have x2:=coh (i:=2) NB2.out
  have x3:=(BK2.out.cell (p:=⟨gl,1,none⟩) hgl9).trans L1.out
  simp at x0 x1 x2
  have INS2:Hid (∀ W,Calls Tryz.prog 13 #[.int .u8 (b.op:Nat),.int .u16 (b.n:Nat),.int .i64 31] W fun e w'=>∃ v' vs,e=.returned (.tuple #[v',.int .i64 0])/\StOwn w' W.heap.size v' [opSt [72,76,84]] vs/\Below W.heap.size W w'):=LH (fun W=>by rw [GO.out.ob,GO.out.nb];exact ins_hlt W)
  refine wp_region_mid2 8 _ rfl (by kernel_rfl) (by kernel_rfl) ?_
  simp only [List.take_succ_cons,List.take_zero,List.drop_succ_cons,List.drop_zero]
  repeat still_step
  refine wpStill_nil ⟨rfl,?_⟩
  intro K hK
  go_simp
  refine (INS2.out _).mono ?_
  rintro e wi ⟨v',vs2,rfl,hso,hbi⟩
  obtain ⟨A3,c3,rfl,_,_,hr'⟩:=own_slice hso.2.1 (by decide)
  obtain ⟨gj,rfl,hgi3,hgi4,_,hci⟩:=hr' (by simp)
  have hdx:wy.drew.heap.size=wy.heap.size:=rfl
  rw [hdx] at hso hbi hgi3
  have hbi2:Below wy.heap.size wy wi:=((Below.refl wy.heap.size wy).drew).trans hbi
  have BXi:=LH hbi2
  have SOi:=LH hso
  have hKy:M<wy.heap.size:=loh NB2.out
  have n0:=coh (i:=0) ((hbi2.block _ hKy).trans NB2.out)
  simp at n0
  have HLB:=LH (fun W=>xlabel_any b.pl W)
  refine hK _ _ ?_
  clear hK K x0 x1 x2 x3 hso hbi hbi2 hci hr' hdx INS2
  repeat still_step
  refine wpStill_nil ?_
  go_wp2_with fail
  refine (HLB.out _).mono ?_
  rintro e wj2 ⟨rfl,hbj⟩
  have BXj:=LH (BXi.out.trans (hbj.mono BXi.out.size))
  have SOj:=LH (OwnV.keep stSub_keep SOi.out hbj)
  obtain ⟨A2,c2,e2,_,_,hr2⟩:=own_slice SOj.out.2.1 (by decide)
  injection e2 with e2 _ e2'
  subst e2 e2'
  obtain ⟨g2,e2,_,_,_,hc2⟩:=hr2 (by simp)
  injection e2 with e2
  injection e2 with e2
  subst e2
  have y0:wj2.cell? ⟨gj,0,none⟩=some (.string ⟨([]:List UInt8).toArray⟩):=hc2 0 _ (by cases hvs:vs2 with | nil=>have:=SOj.out.1;rw [hvs] at this;simp at this | cons u us=>rfl)
  have y1:wj2.cell? ⟨gj,1,none⟩=some (.bool false):=hc2 1 _ (by cases hvs:vs2 with | nil=>have:=SOj.out.1;rw [hvs] at this;simp at this | cons u us=>rfl)
  have z0:wj2.frozen? ⟨gj,0,none⟩=false:=own_free SOj.out.2.1
  have z1:wj2.frozen? ⟨gj,1,none⟩=false:=own_free SOj.out.2.1
  clear hbj BXi SOi n0 hr2 hc2 HLB
  go_upto_region 18 with (fail)
  have SOl:=LH (stOwn_label (labelD b.pl) SOj.out)
  have BXl:=LH ((BXj.out.setCell (p:=⟨gj,0,none⟩) (by show wy.heap.size<=gj;omega) (.string ⟨(labelD b.pl).toArray⟩)).setCell (p:=⟨gj,1,none⟩) (by show wy.heap.size<=gj;omega) (.bool true))
  clear SOj BXj y0 y1 z0 z1
  generalize (wj2.setCell ⟨gj,0,none⟩ (.string ⟨(labelD b.pl).toArray⟩)).setCell ⟨gj,1,none⟩ (.bool true)=wl2 at *
  have NBl:=LH ((BXl.out.block _ hKy).trans NB2.out)
  have BKl:=LH (BK2.out.trans (BXl.out.mono BK2.out.size))
  obtain ⟨hwh,vs1,hso1⟩:=WW2.out.bel BXl.out
  have WHl:=LH hwh
  have SO1:=LH hso1
  have y0:=coh (i:=0) hwh
  simp at y0
  have hyl:=BXl.out.size
  have HRD:=LH (Rd.of_own SOl.out.2.1)
  have HONE:=LH (stOwn_one SOl.out)
  clear hwh hso1 WW2 NB2 BK2
  go_wp2_with (at_builtin;refine wpList_append_to _ rfl (.tmp 96) (.tmp 97) 43 rfl (w9.heap.size+1) 63 _ 4 64 Tryz.underlying43 info_st rfl (by omega) SO1.out.2.1 rfl HRD.out rfl SOl.out.2.1.1 HONE.out (by simp;omega) (by omega) (by omega) ?_;intro v9 w10 hown9 hbel9 hg9 hv9;obtain ⟨A8,c8,rfl,_⟩:=own_slice hown9 (by decide);have NB10:=LH ((hg9.block M (by omega) (fun e=>by have:=HVL.out M e.symm;omega)).trans NBl.out);have WH10:=LH ((hbel9.block w9.heap.size (by omega)).trans WHl.out);have BK10:=LH (BKl.out.trans (hbel9.mono (by omega)));have d0:=coh (i:=0) WH10.out;have e0:=foh (i:=0) WH10.out;have WR0:=LH (wr_more (w0:=wl2) (K:=w9.heap.size) (T:=56) (rest:=[]) WHl.out SO1.out SOl.out (by omega) (fun g hg=>by have:=HVL.out g hg;omega) hown9 hg9 hv9);have hz10:=hg9.size;simp at d0 e0;clear hown9 hbel9 hg9 hv9 HRD HONE y0 WHl NBl SOl BKl SO1)
  have WR1:=WR0.out
  have NB11:=LH ((set_block (w:=w10) (g:=w9.heap.size) (i:=0) (u:=.slice A8 (r.length+1+1) c8) (k:=M) (by omega)).trans NB10.out)
  have BK11:=LH (BK10.out.setCell (p:=⟨w9.heap.size,0,none⟩) (Nat.le_refl _) (.slice A8 (r.length+1+1) c8))
  simp only [List.length_cons,List.length_nil,Nat.zero_add] at WR1
  have WR1:=LH WR1
  clear WR0 NB10 WH10 BK10 d0 e0 hz10
  generalize w10.setCell ⟨w9.heap.size,0,none⟩ (.slice A8 (r.length+1+1) c8)=w11 at *
  have x0:=coh (i:=0) NB11.out
  have x1:=coh (i:=1) NB11.out
  simp at x0 x1
  have hob:b.op<256:=by rw [GO.out.ob];omega
  have CH:=LH (fun d' os=>Calls.regrown_of (size80_any b.op hob (Go.Sort.grow (redrawn w11 d') os)))
  rw [show size80 b.op=1 by rw [GO.out.ob];decide] at CH
  have w3':IntKind.u16.wrap 1=1:=by decide
  have w4':IntKind.u16.wrap ((b.pl:Int)+1)=(b.pl:Int)+1:=by rw [IntWalk.u16_in _ (by omega)]
  have j0:=cell_regrown x0
  have j1:=cell_regrown x1
  clear x0 x1
  refine wp_region_quiet_below (by kernel_rfl) (by kernel_rfl) ?_
  repeat (quiet_step (first | (go_at_call 14;exact CH.out _ _)))
  refine wpQuiet_nil ?_
  intro _ hw'
  obtain ⟨⟨dq,osq⟩,hw''⟩:=hw'
  subst hw''
  have BQ:=below_regrown w11 dq osq
  have BK12:=LH (BK11.out.trans (BQ.mono BK11.out.size))
  have NB12:=LH ((BQ.block _ (loh NB11.out)).trans NB11.out)
  have WR12:=LH (WR1.out.bel BQ)
  clear BQ CH j0 j1 w3' w4' BK11 NB11 WR1
  generalize Go.Sort.grow (redrawn w11 dq) osq=w12' at *
  have HEN:=LH (fun W=>ends_any b.op W)
  rw [show ends80 b.op=true by rw [GO.out.ob];decide] at HEN
  have x1:=coh (i:=1) NB12.out
  simp at x1
  go_wp2_with fail
  refine (HEN.out _).mono ?_
  rintro e w13' ⟨rfl,hb13⟩
  have BK13:=LH (BK12.out.trans (hb13.mono BK12.out.size))
  have WR13:=LH (WR12.out.bel hb13)
  have PR13:=(BK13.out.block p hpl).trans PR9.out
  have p5:=coh (i:=5) PR13
  have p1:=coh (i:=1) PR13
  simp at p5 p1
  rw [hlen] at p5
  have HTG:Hid (∀ W,Calls Tryz.prog 18 #[.int .u16 (eg.entry:Nat)] W fun e w'=>e=.returned (.agg #[.string ⟨#[]⟩,.string ⟨#[]⟩,.bool false,.bool false,.string ⟨#[110]⟩,.int .u16 0,.string ⟨(labelD eg.entry).toArray⟩,.slice none 0 0])/\Below W.heap.size W w'):=LH (fun W=>xtarget_any eg.entry W)
  clear hb13 BK12 NB12 WR12 PR13 x1 HEN
  go_wp2_with fail
  rw [rounds_succ]
  go_wp2_with fail
  refine (HTG.out _).mono ?_
  rintro e w14 ⟨rfl,hb14⟩
  have BK14:=LH (BK13.out.trans (hb14.mono BK13.out.size))
  have WR14:=LH (WR13.out.bel hb14)
  have hK14:w9.heap.size<w14.heap.size:=loh WR14.out.1
  have BA:=(Below.refl w14.heap.size w14).alloc (Nat.le_refl _) (.cells (rowA [nameA (labelD eg.entry)]).toArray 72)
  have HVL2:∀ g,(Value.slice A8 (r.length+1+1) c8).ownBlock=some g->g<w14.heap.size:=fun g hg=>by obtain ⟨_,vs',h⟩:=WR14.out;exact (h.2.1.lt g hg).2
  have hput:=xput_any w9.heap.size 56 [] _ _ [69,78,68] [nameA (labelD eg.entry)] (.slice (some ⟨w14.heap.size,0,none⟩) 1 1) (w14.alloc (.cells (rowA [nameA (labelD eg.entry)]).toArray 72)) (WR14.out.bel BA) (by simp;omega)
   ((arAt_new w14 [nameA (labelD eg.entry)] 72 (by simp) (fun x hx=>by simp at hx;subst hx;rfl)).keep (fun _ _=>rfl) (fun g hg=>⟨by omega,by simp;omega,fun e=>by have:=HVL2 g e;omega⟩))
  have HPUT:Hid (Calls Tryz.prog 17 #[.pointer (some ⟨w9.heap.size,0,none⟩),.string ⟨#[69,78,68]⟩,.slice (some ⟨w14.heap.size,0,none⟩) 1 1] (w14.alloc (.cells #[.string ⟨#[]⟩,.string ⟨#[]⟩,.bool false,.bool false,.string ⟨#[110]⟩,.int .u16 0,.string ⟨(labelD eg.entry).toArray⟩,.slice none 0 0] 72)) (PutW w9.heap.size 56 [] (outX a b f r eg.entry) (.slice A8 (r.length+1+1) c8) (w14.alloc (.cells #[.string ⟨#[]⟩,.string ⟨#[]⟩,.bool false,.bool false,.string ⟨#[110]⟩,.int .u16 0,.string ⟨(labelD eg.entry).toArray⟩,.slice none 0 0] 72)))):=LH hput
  clear hput BA p5 p1 BK13 WR13 HTG
  go_wp2_with fail
  refine HPUT.out.mono ?_
  rintro e w15 ⟨rfl,v15,hat15,ht15⟩
  have B15:=LH ((BK14.out.alloc BK14.out.size (.cells #[.string ⟨#[]⟩,.string ⟨#[]⟩,.bool false,.bool false,.string ⟨#[110]⟩,.int .u16 0,.string ⟨(labelD eg.entry).toArray⟩,.slice none 0 0] 72)).trans (ht15.below w9.heap.size (fun g hg=>by
   rcases mem_kv.1 hg with h1 | h1
   ·omega
   ·obtain ⟨_,vs',h⟩:=WR14.out
    have:=(h.2.1.lt g h1).1
    omega) (by simp;omega)))
  obtain ⟨hwh,vs3,hso3⟩:=hat15
  have ST15:=LH hso3.stAt
  obtain ⟨A5,c5',rfl,_⟩:=own_slice hso3.2.1 (by decide)
  have y0:=coh (i:=0) hwh
  simp at y0
  have y0a:=fun o=>new_keep (o:=o) y0
  clear HPUT ht15 hso3 hwh BK14 WR14
  go_wp2_with fail
  have HTX:=LH GO.out.tx
  have HFT:=LH GO.out.fit
  have HASM:=LH GO.out.asm
  have hne:=GO.out.ne
  have hLl:(outX a b f r eg.entry).length<=20:=by unfold outX;simp;omega
  have HWQ:=LH (B9.out.trans (B15.out.mono B9.out.size))
  have hK15:=B15.out.size
  have hps:p<w15.heap.size:=by omega
  have hws:w.heap.size+1<w15.heap.size:=by omega
  have P015:=LH ((B15.out.block w.heap.size (by omega)).trans P09.out)
  have P115:=LH ((B15.out.block (w.heap.size+1) (by omega)).trans P19.out)
  have PR15:=LH ((B15.out.block p hpl).trans PR9.out)
  have IB:=LH (Lib.fresh_isBuilder 77 5 w15)
  generalize outX a b f r eg.entry=L at *
  have HI0:Hid (ShI w w15 w15.heap.size L txt 0 (w15.alloc (.cells #[.pointer none,.slice none 0 0] 77))):=LH ⟨[],IB.out,HTX.out,Nat.zero_le _,(Below.refl _ _).alloc (Nat.le_refl _) _,by simp,HWQ.out.alloc HWQ.out.size _⟩
  clear IB HTX GO y0 y0a P09 P19 PR9 B15 A0 A1 A2 B0' B1' B2' L0 L1 SE9 HIN c5 c5a HVL
  go_loopw [165] (fun i wr=>∃ k:Nat,k<=L.length/\i=.int .i64 k/\ShI w w15 w15.heap.size L txt k wr) (fun i _=>L.length - (intOf i).toNat)
  case atStart=>exact ⟨0,Nat.zero_le _,rfl,HI0.out⟩
  case round=>
   obtain ⟨k,hk,rfl,acc,hi,hR,hal,hbq,hzr,hbw⟩:=hrel
   have HI:=LH hi
   have HR:=LH hR
   have BR:=LH hbq
   have BW:=LH hbw
   have hzw:w15.heap.size<=wr.heap.size:=by omega
   clear hi hR hbq hbw HI0
   by_cases hlt:k<L.length
   ·have i1:(k:Int)<(L.length:Int):=by omega
    obtain ⟨gs,os,sv,rfl,hgs,s0,s1,s2,s3,harg⟩:=ST15.out.get k hlt
    have d0:=(BR.out.cell (p:=⟨gs,os+k * 4,none⟩) hgs.2).trans s0
    have d1:=(BR.out.cell (p:=⟨gs,os+k * 4+1,none⟩) hgs.2).trans s1
    have d2:=(BR.out.cell (p:=⟨gs,os+k * 4+2,none⟩) hgs.2).trans s2
    have d3:=(BR.out.cell (p:=⟨gs,os+k * 4+3,none⟩) hgs.2).trans s3
    obtain ⟨vA,vc,rfl,_,_⟩:=harg.form
    have hfit:=HFT.out L[k] (List.getElem_mem hlt)
    have HSH:=LH (fun W (hW:Below wr.heap.size wr W)=>show12_any 2 L[k] (.slice vA L[k].args.length vc) W (HG.out.below (bthen BW.out hW)) hfit (harg.keep (fun q hq=>(hW.cell (Nat.lt_of_lt_of_le hq.2 hzw)).trans (BR.out.cell hq.2)) (fun g hg=>Nat.lt_of_lt_of_le (Nat.lt_of_lt_of_le hg.2 hzw) hW.size)))
    have HST:=LH ((showX_at L k hlt acc).symm.trans HR.out)
    have hsl:=shwx_small 2 L[k]
    unfold stV at HSH
    generalize showS 2 L[k]=sh at *
    generalize L[k]=sx at *
    obtain ⟨st,ks⟩:=sh
    simp only at HSH HST hsl
    have BA:=LH ((Below.refl wr.heap.size wr).alloc (Nat.le_refl _) (.cells #[.string ⟨sx.label.toArray⟩,.bool sx.colon,.string ⟨sx.op.toArray⟩,.slice vA sx.args.length vc] 63))
    clear s0 s1 s2 s3 harg hfit HR
    go_wp2_with fail
    refine (HSH.out _ BA.out).mono ?_
    rintro e w6 ⟨rfl,hb6⟩
    have B6:=LH (bthen BA.out hb6)
    have hz6:wr.heap.size<=w6.heap.size:=B6.out.size
    have HWR:=LH (bwrite_str w15.heap.size w15.heap.size acc (st++[10]) w6 (isbx_keep HI.out B6.out) (by simp;omega) (by omega))
    clear hb6 HSH d0 d1 d2 d3 BA
    go_wp2_with fail
    refine HWR.out.mono ?_
    rintro e w7' ⟨rfl,h7,hb7⟩
    have H7:=LH h7
    have B7:=LH ((BR.out.trans (B6.out.mono hzw)).trans hb7)
    have B70:=LH ((bthen BW.out B6.out).trans (hb7.mono (by omega)))
    have hz7:=hb7.size
    clear h7 hb7 HWR
    go_wp2_with fail
    go_roundw
    case rel=>exact ⟨k+1,by omega,by go_num,acc++(st++[10]),H7.out,HST.out,by simp;omega,B7.out,by omega,B70.out⟩
    case measure=>simp [intOf];omega
   ·obtain rfl:k=L.length:=by omega
    have hacc:acc=txt:=by have:=HR.out;rw [List.drop_length] at this;exact this
    subst hacc
    have HST:=LH (Tryz.Builder_String_f w15.heap.size w15.heap.size acc wr (Lib.IsBuilderF.of HI.out) hne)
    clear HI HR
    go_wp2_with fail
    refine HST.out.mono ?_
    rintro e w16 ⟨rfl,hf16,hb16⟩
    have BW16:=LH (BW.out.trans (hb16.mono (by omega)))
    have BS16:=LH (BR.out.trans hb16)
    have HF16:=LH hf16
    have HA6:=LH (HASM.out w16 (HG.out.below BW16.out))
    have hz16:w15.heap.size<=w16.heap.size:=BS16.out.size
    clear hf16 hb16 HST BW BR HASM
    go_wp2_with fail
    refine HA6.out.mono ?_
    rintro e w17 ⟨pa',nn',sA',sl',sc',lA',ll',lc',uA',ul',uc',rfl,hb17⟩
    have BW17:=LH (bthen BW16.out hb17)
    have BS17:=LH (BS16.out.trans (hb17.mono hz16))
    have HF17:=LH (isbF_keep HF16.out hb17)
    have hz17:w15.heap.size<=w17.heap.size:=BS17.out.size
    clear hb17 HA6 BW16 BS16 HF16
    simp only [show ((0:Nat):Int)=0 from rfl]
    go_wp2_with fail
    have BE:=((Below.refl w17.heap.size w17).alloc (Nat.le_refl _) (.cells #[.pointer pa',.int .u16 nn',.slice sA' sl' sc',.slice lA' ll' lc',.slice uA' ul' uc'] 86)).alloc (by simp) (.cells #[.int .i64 0,.int .i64 0] 29)
    have BW18:=LH (bthen BW17.out BE)
    have BS18:=LH (BS17.out.trans (BE.mono hz17))
    have HF18:=LH (isbF_keep HF17.out BE)
    clear BE BW17 BS17 HF17
    generalize (w17.alloc (.cells #[.pointer pa',.int .u16 nn',.slice sA' sl' sc',.slice lA' ll' lc',.slice uA' ul' uc'] 86)).alloc (.cells #[.int .i64 0,.int .i64 0] 29)=w18 at *
    have P018:=LH ((BS18.out.block w.heap.size (by omega)).trans P015.out)
    have P118:=LH ((BS18.out.block (w.heap.size+1) hws).trans P115.out)
    have PR18:=LH ((BS18.out.block p hps).trans PR15.out)
    have p5:=coh (i:=5) PR18.out
    simp at p5
    rw [hlen] at p5
    have HS2:=LH (Tryz.Builder_String_f w15.heap.size w15.heap.size acc w18.drew (isbF_keep HF18.out ((Below.refl w18.heap.size w18).drew)) hne)
    clear P015 P115 PR15 HF18 BS18 hz16 hz17 hzw hzr
    have hp0:p≠w.heap.size:=fun e=>by have h:=PR18.out;rw [e,P018.out] at h;simp at h
    have hp1:p≠w.heap.size+1:=fun e=>by have h:=PR18.out;rw [e,P118.out] at h;simp at h
    have hk0:Hid (∀ (W:World) (x0 x1 x2:Value),W.cell? ⟨p,5,none⟩=some (.slice (some ⟨gn,on,none⟩) 2 nc)->(((W.setCell ⟨w.heap.size,0,none⟩ x0).setCell ⟨w.heap.size,1,none⟩ x1).setCell ⟨w.heap.size,2,none⟩ x2).cell? ⟨p,5,none⟩=some (.slice (some ⟨gn,on,none⟩) 2 nc)):=LH (fun W x0 x1 x2 h=>by
     rw [World.cell?_setCell_far _ _ _ _ (by exact hp0.symm),World.cell?_setCell_far _ _ _ _ (by exact hp0.symm),World.cell?_setCell_far _ _ _ _ (by exact hp0.symm)];exact h)
    have hk1:Hid (∀ (W:World) (x0 x1:Value),W.cell? ⟨p,5,none⟩=some (.slice (some ⟨gn,on,none⟩) 2 nc)->((W.setCell ⟨w.heap.size+1,0,none⟩ x0).setCell ⟨w.heap.size+1,1,none⟩ x1).cell? ⟨p,5,none⟩=some (.slice (some ⟨gn,on,none⟩) 2 nc)):=LH (fun W x0 x1 h=>by
     rw [World.cell?_setCell_far _ _ _ _ (by exact hp1.symm),World.cell?_setCell_far _ _ _ _ (by exact hp1.symm)];exact h)
    go_region_held3 (fun W'=>W'.cell? ⟨p,5,none⟩=some (.slice (some ⟨gn,on,none⟩) 2 nc)) (first | with_reducible assumption | with_reducible exact hk0.out _ _ _ _ (by with_reducible assumption) | with_reducible exact hk1.out _ _ _ (by with_reducible assumption) | exact p5) (first | (go_at_call 22;(with_reducible refine HS2.out.mono ?_);rintro e w19 ⟨rfl,hf19,hb19⟩;have Q0:=(hb19.block w.heap.size (by omega)).trans P018.out;have Q1:=(hb19.block (w.heap.size+1) hws).trans P118.out;have p5':=(hb19.cell (p:=⟨p,5,none⟩) hps).trans p5;have v0:=coh (i:=0) Q0;have v1:=coh (i:=1) Q0;have v2:=coh (i:=2) Q0;have f0:=foh (i:=0) Q0;have f1:=foh (i:=1) Q0;have f2:=foh (i:=2) Q0;have u0:=coh (i:=0) Q1;have u1:=coh (i:=1) Q1;have g0:=foh (i:=0) Q1;have g1:=foh (i:=1) Q1;simp at v0 v1 v2 f0 f1 f2 u0 u1 g0 g1))
    all_goals (
     have B19:=(BW18.out.drew).trans (hb19.mono (by omega))
     (try clear p5');(try clear Q1);(try clear Q0);(try clear hf19);(try clear hk1);(try clear hk0);(try clear h);(try clear hp1);(try clear hp0);(try clear HS2);(try clear p5);(try clear PR18);(try clear P118);(try clear P018);(try clear uc');(try clear ul');(try clear uA');(try clear lc');(try clear ll');(try clear lA');(try clear sc');(try clear sl');(try clear sA');(try clear nn');(try clear pa');(try clear hacc);(try clear hz7);(try clear B70);(try clear B7);(try clear H7);(try clear hz6);(try clear B6);(try clear ks);(try clear st);(try clear hsl);(try clear vc);(try clear vA);(try clear hgs);(try clear sv);(try clear os);(try clear gs);(try clear i1);(try clear hal);(try clear hk);(try clear k);(try clear hps);(try clear hK15);(try clear HWQ);(try clear hLl);(try clear hne);(try clear HFT);(try clear ST15);(try clear hat15);(try clear v15);(try clear HVL2);(try clear hK14);(try clear hb14);(try clear hw'');(try clear osq);(try clear dq);(try clear hob);(try clear hyl);(try clear BXl);(try clear e2);(try clear hKy);(try clear hgi4);(try clear hgi3);(try clear hK13);(try clear z);(try clear op);(try clear size80);(try clear za);(try clear hpb);(try clear hnx);(try clear hoa);(try clear hfew);(try clear hKx);(try clear hgi2);(try clear hgi);(try clear c');(try clear INS);(try clear hlen);(try clear e1);(try clear hgn);(try clear hbl);(try clear hpl);(try clear B9);(try clear hgl9);(try clear hw2);(try clear hnc);(try clear nA);(try clear code);(try clear nv);(try clear cb);(try clear hb);(try clear p);(try clear stc);(try clear SA);(try clear v);(try clear hz23);(try clear sc);(try clear hlen2);(try clear sk);(try clear sn);(try clear lk0);(try clear ln0);(try clear eg);(try clear HG);(try clear HX)
     go_wp2_with (
      with_reducible refine bodyPost_ret (v:=.tuple #[.agg #[.string ⟨acc.toArray⟩,.slice (some ⟨gn,on,none⟩) 2 nc,.slice (some ⟨gl,0,none⟩) 2 cl],.agg #[.int .i64 0,.int .i64 0]]) ?_ ?_ ?_
      ·simp [results,Tryz.results4,go_sem,v0,v1,v2,u0,u1]
      ·rfl
      ·first
        | exact ⟨acc,_,_,_,_,_,_,rfl,fun _=>rfl,((((B19.setCell (Nat.le_refl _) _).setCell (Nat.le_refl _) _).setCell (Nat.le_refl _) _).setCell (Nat.le_succ _) _).setCell (Nat.le_succ _) _⟩
        | exact ⟨acc,_,_,_,_,_,_,rfl,fun _=>rfl,(((((B19.setCell (Nat.le_refl _) _).setCell (Nat.le_refl _) _).setCell (Nat.le_refl _) _).setCell (Nat.le_succ _) _).setCell (Nat.le_succ _) _).drew⟩))
 ·have e1:((k:Int) == 0)=false:=by rw [beq_eq_false_iff_ne];omega
  clear HPG7 HND7 HSET7
  go_wp2_with fail
  go_region
  all_goals (
   go_wp2_with fail
   refine bodyPost_ret (v:=.tuple #[.agg #[.string ⟨#[]⟩,.slice none 0 0,.slice none 0 0],.agg #[.int .i64 ln,.int .i64 k]]) (by simp [results,Tryz.results4,go_sem,r0,r1,r2,s0,s1]) rfl ?_
   exact ⟨[],_,_,_,_,_,_,rfl,fun h=>absurd h hk,(((((B8.out.setCell (Nat.le_refl _) _).setCell (Nat.le_refl _) _).setCell (Nat.le_refl _) _).setCell (Nat.le_succ _) _).setCell (Nat.le_succ _) _).drew⟩)
end Go.Proofs.YtbdnbfacalfciaaGreatDoor
