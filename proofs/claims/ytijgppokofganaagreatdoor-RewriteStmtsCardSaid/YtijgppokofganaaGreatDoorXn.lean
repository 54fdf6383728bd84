/- Xn. -/
import Derived.Test.YtijgppokofganaaGreatDoorXd
import Derived.Test.YtijgppokofganaaGreatDoorXm
import Derived.Test.YtijgppokofganaaGreatDoorLs
import Derived.Lib.SliceRun
import Derived.Test.YtijgppokofganaaGreatDoorXb
import Derived.Test.YtijgppokofganaaGreatDoorRw4
import Derived.Test.YtijgppokofganaaGreatDoorUc
namespace Go.Proofs.YtijgppokofganaaGreatDoor
set_option maxRecDepth 100000
set_option maxHeartbeats 16000000
open Go.RowKit
def ArRow (w:World) (base:Nat) (T:Nat->Prop) (v:Value) (l:List Ar) (us:List Value):Prop:=
 us.length=l.length/\w.ownsRow base 36 8 v l.length (rowV arCells l us)/\∀ i (hi:i<l.length),SubAt w (fun g=>(g<w.heap.size/\v.ownBlock≠some g)/\T g) (us.getD i (.slice none 0 0)) l[i].e.sub
theorem ArRow.nil (w:World) (base:Nat) (T:Nat->Prop):ArRow w base T (.slice none 0 0) [] []:=⟨rfl,World.ownsRow_nil _ _ _ _,fun i hi=>absurd hi (by simp)⟩
theorem ArRow.bel {w w':World} {base:Nat} {T:Nat->Prop} {v:Value} {l:List Ar} {us:List Value} (h:ArRow w base T v l us) (hb:Below w.heap.size w w'):ArRow w' base T v l us:=
 ⟨h.1,own_bel h.2.1 hb,fun i hi=>(h.2.2 i hi).keep (fun _ hp=>hb.cell hp.1.1) (fun _ hg=>⟨⟨Nat.lt_of_lt_of_le hg.1.1 hb.size,hg.1.2⟩,hg.2⟩)⟩
theorem rowV_inv {α:Type} {f:α->Value->List Value} {C:Nat} (hC:∀ a v,(f a v).length=C) (hC0:0<C) (l:List α) (vs:List Value) (h:vs.length=l.length) (q:Nat) (u:Value) (hu:(rowV f l vs)[q]? = some u) :
  ∃ (i j:Nat) (hi:i<l.length),q=i * C+j/\j<C/\(f l[i] (vs.getD i (.slice none 0 0)))[j]? = some u:=by
 have hq:q<l.length * C:=by rw [← rowV_len hC l vs h];exact (List.getElem?_eq_some_iff.1 hu).1
 have hi:q / C<l.length:=Nat.div_lt_of_lt_mul (by rw [Nat.mul_comm];exact hq)
 have hj:q % C<C:=Nat.mod_lt _ hC0
 have e:q / C * C+q % C=q:=by rw [Nat.mul_comm];exact Nat.div_add_mod q C
 have hg:=rowV_get hC l vs h (q / C) hi (q % C) _ (List.getElem?_eq_getElem (by rw [hC];exact hj))
 rw [e,hu] at hg
 exact ⟨q / C,q % C,hi,e.symm,hj,by rw [List.getElem?_eq_getElem (by rw [hC];exact hj)];exact hg.symm⟩
theorem ArRow.arAt {w:World} {base:Nat} {T:Nat->Prop} {v:Value} {l:List Ar} {us:List Value} (h:ArRow w base T v l us) (hT:∀ g,base<=g->T g):ArAt w (fun g=>g<w.heap.size/\T g) v l:=by
 obtain ⟨h1,h2,h3⟩:=h
 obtain ⟨A,c,rfl,hc,hm,hrow⟩:=own_slice h2 (by omega)
 refine ⟨A,c,fun i=>us.getD i (Zs),rfl,hc,hm,fun h0=>?_,fun i hi=>(h3 i hi).keep (fun _ _=>rfl) (fun g hg=>⟨hg.1.1,hg.2⟩)⟩
 obtain ⟨g,rfl,hbg,hg,_,hcell⟩:=hrow h0
 exact ⟨g,0,rfl,⟨hg,hT g hbg⟩,fun i hi j u hu=>by rw [Nat.zero_add];exact hcell _ _ (rowV_get arCells_len l us h1 i hi j u hu)⟩
theorem ArAt.rd {w:World} {B:Nat} {S:Nat->Prop} {v:Value} {l:List Ar} (h:ArAt w S v l) (hS:∀ g,S g->g<B):∃ us:List Value,us.length=l.length/\Rd w B v l.length (rowV arCells l us)/\(∀ i (hi:i<l.length),SubAt w S (us.getD i (.slice none 0 0)) l[i].e.sub):=by
 obtain ⟨A,c,vs,rfl,hc,hm,h3,h4⟩:=h
 have hget:∀ i,i<l.length->((List.range l.length).map vs).getD i (Zs)=vs i:=fun i hi=>by
  rw [List.getD_eq_getElem?_getD,List.getElem?_map,List.getElem?_range hi];rfl
 refine ⟨(List.range l.length).map vs,by simp,⟨A,c,rfl,hc,fun h0=>?_⟩,fun i hi=>by rw [hget i hi];exact h4 i hi⟩
 obtain ⟨g,o,rfl,hg,hcell⟩:=h3 h0
 refine ⟨g,o,rfl,hS g hg,fun q u hu=>?_⟩
 obtain ⟨i,j,hi,rfl,hj,hu2⟩:=rowV_inv arCells_len (by decide) l _ (by simp) q u hu
 rw [hget i hi] at hu2
 rw [← Nat.add_assoc]
 exact hcell i hi j u hu2
theorem rowA_one {l:List Ar} {us:List Value} (h:∀ i,i<us.length->∃ A n c,us.getD i (.slice none 0 0)=.slice A n c):∀ u∈rowV arCells l us,u.oneCell'=true:=by
 refine rowV_one l us (fun a v hv u hu=>?_)
 obtain ⟨i,hi,rfl⟩:=List.getElem_of_mem hv
 obtain ⟨A,n,c,e⟩:=h i hi
 rw [List.getD_eq_getElem?_getD,List.getElem?_eq_getElem hi] at e
 have e2:us[i]=.slice A n c:=e
 rw [e2] at hu
 exact arCells_one a _ rfl u hu
theorem clone_any (S:Nat->Prop) (l:List Ar) (v:Value) (w:World) (hS:∀ g,S g->g<w.heap.size) (hs:ArAt w S v l) (hl:l.length<=1000) :
  Calls Tryz.prog 14 #[v] w fun e w'=>∃ u us,e=.returned u/\ArRow w' w.heap.size S u l us/\Below w.heap.size w w':=by
 obtain ⟨us,hus,hrd,hsub⟩:=hs.rd hS
 have HRD:=LH hrd
 have HSUB:=LH hsub
 have HUS:=LH hus
 have HONE:Hid (∀ u∈rowV arCells l us,u.oneCell'=true):=LH (rowA_one (fun i hi=>by
  obtain ⟨A,c,e,_⟩:=(hsub i (by omega)).form
  exact ⟨_,_,_,e⟩))
 have HLEN:Hid ((rowV arCells l us).length=l.length * 8):=LH (rowV_len arCells_len l us hus)
 obtain ⟨A,c,rfl,hc,_⟩:=hs.form
 cases A with
 | none=>
  have hl0:l = []:=by
   obtain ⟨A',c',vs,e,_,_,h3,_⟩:=hs
   injection e with e _ _
   subst e
   cases l with
   | nil=>rfl
   | cons x r=>
    obtain ⟨g,o,h,_⟩:=h3 (by simp)
    cases h
  subst hl0
  clear hs hrd hsub hus
  have hq:=fun (W:World)=>Lib.run_eql_slice_nil (P:=Tryz.prog) W 22 36 none 0 c 0 0 Tryz.underlying22
  go_enter Tryz.func14, Tryz.ntmps14
  go_wp2_with fail
  go_ret
  exact ⟨_,[],rfl,ArRow.nil _ _ _,Below.refl _ _⟩
 | some a=>
  clear hs hrd hsub hus
  have HXS:Hid (∃ xs,xs=rowV arCells l us):=LH ⟨_,rfl⟩
  obtain ⟨xs,hxs⟩:=HXS.out
  rw [← hxs] at HRD HONE HLEN
  have HX:=LH hxs
  have hq:=fun (W:World)=>Lib.run_eql_slice_nil (P:=Tryz.prog) W 22 36 (some a) l.length c 0 0 Tryz.underlying22
  have HO:Hid ((w.alloc (.cells #[] 36)).ownsRow w.heap.size 36 8 (.slice (some ⟨w.heap.size,0,none⟩) 0 0) 0 []):=LH ⟨rfl,.inr ⟨w.heap.size,0,#[],rfl,Nat.le_refl _,heap_alloc_new w _,Nat.le_refl _,Nat.zero_le _,rfl,rfl⟩⟩
  have HR2:Hid (Rd (w.alloc (.cells #[] 36)) w.heap.size (.slice (some a) l.length c) l.length xs):=LH (HRD.out.keep (fun p hp=>World.cell?_alloc_lt _ _ _ hp))
  have BA:=LH (bra w (.cells #[] 36))
  clear HXS hxs
  go_enter Tryz.func14, Tryz.ntmps14
  go_wp2_with (at_builtin;refine wpList_append_to _ rfl (.tmp 5) (.tmp 6) 22 rfl w.heap.size 36 _ 8 104 Tryz.underlying22 info_ar rfl (by omega) HO.out rfl HR2.out rfl HLEN.out HONE.out (by omega) (by omega) (by simp) ?_;intro v9 w9 hown9 hbel9 hg9 hv9;clear hg9 hv9)
  go_ret
  simp only [Nat.zero_add,List.nil_append] at hown9
  have hlt:=fun k (hk:v9.ownBlock=some k)=>(hown9.lt k hk).1
  rw [HX.out] at hown9
  refine ⟨v9,us,rfl,⟨HUS.out,hown9,fun i hi=>(HSUB.out i hi).keep (fun p hp=>(hbel9.cell (hS _ hp)).trans (World.cell?_alloc_lt _ _ _ (hS _ hp))) (fun g hg=>⟨⟨Nat.lt_of_lt_of_le (hS g hg) (Nat.le_trans BA.out.size hbel9.size),fun hh=>by have:=hlt g hh;have h2:=hS g hg;omega⟩,hg⟩)⟩,BA.out.trans hbel9⟩
def WkAt (w:World) (b:Nat) (s:St) (v:Value):Prop:=w.heap[b]? = some (.cells #[.string ⟨s.label.toArray⟩,.bool s.colon,.string ⟨s.op.toArray⟩,v] 46 (0,0))
theorem wlay_any (b:Nat) (s:St) (v:Value) (op:List UInt8) (A:Option Addr) (n c:Nat) (w:World) (h:WkAt w b s v) :
  Calls Tryz.prog 49 #[.pointer (some ⟨b,0,none⟩),.string ⟨op.toArray⟩,.slice A n c] w fun e w'=>e=.returned (.tuple #[])/\w'=(w.setCell ⟨b,2,none⟩ (.string ⟨op.toArray⟩)).setCell ⟨b,3,none⟩ (.slice A n c):=by
 unfold WkAt at h
 obtain ⟨⟨k0,k1,k2,k3⟩,f0,f1,f2,f3⟩:=four h
 clear h
 go_enter Tryz.func49, Tryz.ntmps49
 go_wp2_with fail
 go_end0
 exact ⟨rfl,rfl⟩
theorem WkAt.laid {w:World} {b:Nat} {s:St} {v:Value} (h:WkAt w b s v) (op:List UInt8) (u:Value) (args:List Ar):WkAt ((w.setCell ⟨b,2,none⟩ (.string ⟨op.toArray⟩)).setCell ⟨b,3,none⟩ u) b ⟨s.label,s.colon,op,args⟩ u:=by
 unfold WkAt at h ⊢
 rw [heap_set (i:=3) _ (heap_set (i:=2) _ h)]
 rfl
theorem ArAt.one {w:World} {S S':Nat->Prop} {u:Value} {a:Ar} (h:SubAt w S u a.e.sub) (hl:∀ g,S g->g<w.heap.size) (hS:∀ g,S g->S' g) (N:Nat) (hN:w.heap.size=N) (hn:S' N) (T:TypeId) :
  ArAt (w.alloc (.cells (arCells a u).toArray T)) S' (.slice (some ⟨N,0,none⟩) 1 1) [a]:=by
 subst hN
 refine ⟨_,1,fun _=>u,rfl,Nat.le_refl _,by unfold maxLen;simp,fun _=>⟨w.heap.size,0,rfl,hn,fun i hi j v hv=>?_⟩,fun i hi=>?_⟩
 ·obtain rfl:i=0:=by simpa using hi
  rw [coh (heap_alloc_new w _)]
  simpa using hv
 ·obtain rfl:i=0:=by simpa using hi
  exact h.keep (fun p hp=>World.cell?_alloc_lt _ _ _ (hl _ hp)) hS
def WkP (b:Nat) (w:World) (r:St × Nat) (e:Ending) (w':World):Prop:=
 e=.returned (.int .i64 (r.2:Nat))/\Turn [b] w [b] w'/\(r.2=0->∃ v',WkAt w' b r.1 v'/\ArAt w' (fun g=>g<w'.heap.size/\g≠b) v' r.1.args)
theorem okE_of {e:Ex} (h:fitE e=true):okE e:=by
 obtain ⟨o,n,m,s⟩:=e
 simp only [fitE,Bool.and_eq_true,decide_eq_true_eq] at h
 refine ⟨h.1.1.1,?_,?_⟩
 ·show o.length<=maxLen
  unfold maxLen;omega
 ·show m.length<=maxLen
  unfold maxLen;omega
theorem ArAt.more {w:World} {S S':Nat->Prop} {v:Value} {l:List Ar} (h:ArAt w S v l) (hS:∀ g,S g->S' g):ArAt w S' v l:=h.keep (fun _ _=>rfl) hS
theorem ArAt.putOff {w:World} {S:Nat->Prop} {v:Value} {l:List Ar} {b:Nat} (h:ArAt w S v l) (hS:∀ g,S g->g≠b) (i:Nat) (u:Value):ArAt (w.setCell ⟨b,i,none⟩ u) S v l:=
 h.keep (fun _p hp=>World.cell?_of_block (blk_off (hS _ hp))) (fun _ h=>h)
theorem wrst_any (b:Nat) (lab:List UInt8) (colon:Bool) (op:List UInt8) (x:Ar) (v:Value) (w:World) (h:WkAt w b ⟨lab,colon,op,[x]⟩ v) (hs:ArAt w (fun g=>g<w.heap.size/\g≠b) v [x]) (hf:okE x.e) :
  Calls Tryz.prog 46 #[.pointer (some ⟨b,0,none⟩)] w fun e w'=>e=.returned (.tuple #[])/\Turn [b] w [b] w'/\∃ v',WkAt w' b ⟨lab,colon,sRST,[⟨[],[],false,false,eightE x.e⟩]⟩ v'/\ArAt w' (fun g=>g<w'.heap.size/\g≠b) v' [⟨[],[],false,false,eightE x.e⟩]:=by
 have hb:b<w.heap.size:=loh h
 have HK:=LH h
 have HOK:=LH hf
 have HL:=LH (fun (w2:World) A n c (h2:WkAt w2 b ⟨lab,colon,op,[x]⟩ v)=>wlay_any b _ v sRST A n c w2 h2)
 have HW2:Hid (∀ o1 o2,WkAt ((w.alloc o1).alloc o2) b ⟨lab,colon,op,[x]⟩ v):=LH (fun o1 o2=>(Below.heap_alloc _ _ b (by simp;omega)).trans ((Below.heap_alloc _ _ b hb).trans h))
 have HW3:Hid (∀ o1 o2 o3,WkAt (((w.alloc o1).alloc o2).alloc o3) b ⟨lab,colon,op,[x]⟩ v):=LH (fun o1 o2 o3=>(Below.heap_alloc _ _ b (by simp;omega)).trans (HW2.out o1 o2))
 have HT2:Hid (∀ o1 o2 u2 u3,Turn [b] w [b] ((((w.alloc o1).alloc o2).setCell ⟨b,2,none⟩ u2).setCell ⟨b,3,none⟩ u3)):=LH (fun o1 o2 u2 u3=>((((Turn.refl [b] w).alloc o1).alloc o2).set b 2 u2 (.inl (by simp))).set b 3 u3 (.inl (by simp)))
 have HT3:Hid (∀ o1 o2 o3 u2 u3,Turn [b] w [b] (((((w.alloc o1).alloc o2).alloc o3).setCell ⟨b,2,none⟩ u2).setCell ⟨b,3,none⟩ u3)):=LH (fun o1 o2 o3 u2 u3=>(((((Turn.refl [b] w).alloc o1).alloc o2).alloc o3).set b 2 u2 (.inl (by simp))).set b 3 u3 (.inl (by simp)))
 obtain ⟨A,c,rfl,hc,_⟩:=hs.form
 obtain ⟨g,o,sv,rfl,⟨hg,hgb⟩,c0,c1,c2,c3,c4,c5,c6,c7,hsub⟩:=hs.get 0 (by simp)
 obtain ⟨sA,sc,rfl,_,_⟩:=hsub.form
 have HS:=LH hsub
 unfold WkAt at h
 obtain ⟨⟨k0,k1,k2,k3⟩,f0,f1,f2,f3⟩:=four h
 simp only [List.getElem_cons_zero,Nat.zero_mul,Nat.add_zero,List.length_cons,List.length_nil] at *
 by_cases ho:x.e.op = [35]
 ·obtain ⟨q,hq⟩:∃ q:Nat,q=x.e.n * 8 % 65536:=⟨_,rfl⟩
  have h8:IntKind.u16.wrap ((x.e.n:Int) * 8)=(q:Int):=by rw [wrap16];omega
  have HE:Hid (eightE x.e=.mk [35] q x.e.name x.e.sub):=LH (by unfold eightE;rw [if_pos ho,hq])
  rw [ho] at c4
  have HF:Hid (ArAt ((w.alloc (.cells #[.string ⟨#[35]⟩,.int .u16 (q:Nat),Sx x.e.name,.slice sA x.e.sub.length sc] 34)).alloc (.cells #[Sn,Sn,Bf,Bf,.string ⟨#[35]⟩,.int .u16 (q:Nat),Sx x.e.name,.slice sA x.e.sub.length sc] 36)) (fun g=>g<w.heap.size+2/\g≠b) (.slice (some ⟨w.heap.size+1,0,none⟩) 1 1) [⟨[],[],false,false,.mk [35] q x.e.name x.e.sub⟩]):=
   LH (ArAt.one (w:=w.alloc (.cells #[.string ⟨#[35]⟩,.int .u16 (q:Nat),Sx x.e.name,.slice sA x.e.sub.length sc] 34)) (S:=fun g=>g<w.heap.size/\g≠b) (S':=fun g=>g<w.heap.size+2/\g≠b) (u:=.slice sA x.e.sub.length sc) (a:=⟨[],[],false,false,.mk [35] q x.e.name x.e.sub⟩) (HS.out.keep (fun p hp=>World.cell?_alloc_lt _ _ _ hp.1) (fun g hg=>hg)) (fun g hg=>by have:=hg.1;simp;omega) (fun g hg=>⟨by have:=hg.1;omega,hg.2⟩) (w.heap.size+1) (by simp) ⟨by omega,by omega⟩ 36)
  clear hs hsub h ho hq
  go_enter Tryz.func46, Tryz.ntmps46
  go_wp2_with fail
  refine (HL.out _ _ _ _ (HW2.out _ _)).mono ?_
  rintro e w5 ⟨rfl,hw5⟩
  have HW5:=LH hw5
  clear hw5
  go_wp2_with fail
  go_end0
  obtain rfl:=HW5.out
  refine ⟨rfl,HT2.out _ _ _ _,_,WkAt.laid (HW2.out _ _) _ _ _,?_⟩
  rw [HE.out]
  exact ((HF.out.putOff (fun g hg=>hg.2) 2 _).putOff (fun g hg=>hg.2) 3 _).more (fun g hg=>⟨by have:=hg.1;simp;omega,hg.2⟩)
 ·have HE:Hid (eightE x.e=.mk [42] 0 [] [x.e,.mk [35] 8 [] []]):=LH (by unfold eightE;rw [if_neg ho])
  have h1:=str_ne ho
  have h2:SubAt ((w.alloc (.cells #[.string ⟨#[42]⟩,.int .u16 0,Sn,.slice (some ⟨w.heap.size+1,0,none⟩) 2 2] 34)).alloc (.cells #[Sx x.e.op,.int .u16 x.e.n,Sx x.e.name,.slice sA x.e.sub.length sc,.string ⟨#[35]⟩,.int .u16 8,Sn,Zs] 34)) (fun g=>g<w.heap.size+2/\g≠b) (.slice (some ⟨w.heap.size+1,0,none⟩) 2 2) [x.e,.mk [35] 8 [] []]:=
   SubAt.two (w:=(w.alloc (.cells #[.string ⟨#[42]⟩,.int .u16 0,Sn,.slice (some ⟨w.heap.size+1,0,none⟩) 2 2] 34))) (S:=fun g=>g<w.heap.size/\g≠b) (S':=fun g=>g<w.heap.size+2/\g≠b) (v:=.slice sA x.e.sub.length sc) (v':=Zs) (e:=x.e) (e':=.mk [35] 8 [] []) (HS.out.keep (fun p hp=>World.cell?_alloc_lt _ _ _ hp.1) (fun g hg=>hg)) (SubAt.nil _ _) HOK.out ⟨by decide,by simp [Ex.op,maxLen],by simp [Ex.name,maxLen]⟩ (fun g hg=>by have:=hg.1;simp;omega) (fun g hg=>⟨by have:=hg.1;omega,hg.2⟩) (w.heap.size+1) (by simp) ⟨by omega,by omega⟩ 34
  have HF:Hid (ArAt (((w.alloc (.cells #[.string ⟨#[42]⟩,.int .u16 0,Sn,.slice (some ⟨w.heap.size+1,0,none⟩) 2 2] 34)).alloc (.cells #[Sx x.e.op,.int .u16 x.e.n,Sx x.e.name,.slice sA x.e.sub.length sc,.string ⟨#[35]⟩,.int .u16 8,Sn,Zs] 34)).alloc (.cells #[Sn,Sn,Bf,Bf,.string ⟨#[42]⟩,.int .u16 0,Sn,.slice (some ⟨w.heap.size+1,0,none⟩) 2 2] 36)) (fun g=>g<w.heap.size+3/\g≠b) (.slice (some ⟨w.heap.size+1+1,0,none⟩) 1 1) [⟨[],[],false,false,.mk [42] 0 [] [x.e,.mk [35] 8 [] []]⟩]):=
   LH (ArAt.one (w:=((w.alloc (.cells #[.string ⟨#[42]⟩,.int .u16 0,Sn,.slice (some ⟨w.heap.size+1,0,none⟩) 2 2] 34)).alloc (.cells #[Sx x.e.op,.int .u16 x.e.n,Sx x.e.name,.slice sA x.e.sub.length sc,.string ⟨#[35]⟩,.int .u16 8,Sn,Zs] 34))) (S:=fun g=>g<w.heap.size+2/\g≠b) (S':=fun g=>g<w.heap.size+3/\g≠b) (u:=.slice (some ⟨w.heap.size+1,0,none⟩) 2 2) (a:=⟨[],[],false,false,.mk [42] 0 [] [x.e,.mk [35] 8 [] []]⟩) h2 (fun g hg=>by have:=hg.1;simp;omega) (fun g hg=>⟨by have:=hg.1;omega,hg.2⟩) (w.heap.size+1+1) (by simp) ⟨by omega,by omega⟩ 36)
  clear h2
  clear hs hsub h ho
  go_enter Tryz.func46, Tryz.ntmps46
  go_wp2_with fail
  refine (HL.out _ _ _ _ (HW3.out _ _ _)).mono ?_
  rintro e w5 ⟨rfl,hw5⟩
  have HW5:=LH hw5
  clear hw5
  go_wp2_with fail
  go_end0
  obtain rfl:=HW5.out
  refine ⟨rfl,HT3.out _ _ _ _ _,_,WkAt.laid (HW3.out _ _ _) _ _ _,?_⟩
  rw [HE.out]
  exact ((HF.out.putOff (fun g hg=>hg.2) 2 _).putOff (fun g hg=>hg.2) 3 _).more (fun g hg=>⟨by have:=hg.1;simp;omega,hg.2⟩)
theorem row_low {w:World} {base size n:Nat} {e:TypeId} {v:Value} {xs:List Value} (h:w.ownsRow base e size v n xs):w.ownsRow 0 e size v n xs:=
 ⟨h.1,h.2.imp id fun ⟨g,cap,cur,h1,_,h3,h4⟩=>⟨g,cap,cur,h1,Nat.zero_le _,h3,h4⟩⟩
theorem ArRow.snoc {w w0 w':World} {base:Nat} {T:Nat->Prop} {v v' u:Value} {l:List Ar} {a:Ar} {us:List Value} (h:ArRow w base T v l us) (h0:Below w.heap.size w w0) (hs:SubAt w0 (fun g=>(g<w0.heap.size/\v.ownBlock≠some g)/\T g) u a.e.sub)
  (hown:w'.ownsRow base 36 8 v' (l.length+1) (rowV arCells l us++arCells a u)) (hg:w0.grownBy w' v.ownBlock) (hv:v'.ownBlock=v.ownBlock∨v'.ownBlock=some w0.heap.size):ArRow w' base T v' (l++[a]) (us++[u]):=by
 have hO:OwnV arCells (fun w S v (a:Ar)=>SubAt w (fun g=>S g/\T g) v a.e.sub) 36 8 w 0 v l us:=⟨h.1,row_low h.2.1,fun i hi=>(h.2.2 i hi).more (fun g hg=>⟨⟨Nat.zero_le _,hg.1⟩,hg.2⟩)⟩
 obtain ⟨h1,_,h3⟩:=OwnV.snoc (fun _ _ _ _ _ _ h hk hS=>h.keep (fun p hp=>hk p hp.1) (fun g hg=>⟨hS g hg.1,hg.2⟩)) hO h0 (hs.more (fun g hg=>⟨⟨Nat.zero_le _,hg.1⟩,hg.2⟩)) (row_low hown) hg hv
 exact ⟨h1,by rw [rowV_snoc l a u us h.1];simpa using hown,fun i hi=>(h3 i hi).more (fun g hg=>⟨hg.1.2,hg.2⟩)⟩
theorem eI_zero (o:Option Nat):(eI o != 0)=decide (o≠some 0):=by
 cases o with
 | none=>rfl
 | some k=>
  cases k with
  | zero=>rfl
  | succ k=>
   have h1:decide ((some (k+1):Option Nat)≠some 0)=true:=by simp
   rw [h1,bne_iff_ne]
   show ((k+1:Nat):Int)≠0
   omega
theorem WkP.bad {b:Nat} {w w':World} {s:St} (k:Nat) (h0:k≠0) (hb:Below w.heap.size w w'):WkP b w (s,k) (.returned (.int .i64 (k:Nat))) w':=⟨rfl,Turn.of_below hb,fun h=>absurd h h0⟩
theorem wturn_rst (b:Nat) (s:St) (hop:s.op=sRST) (v:Value) (w:World) (h:WkAt w b s v) (hs:ArAt w (fun g=>g<w.heap.size/\g≠b) v s.args) (_hl:s.args.length<=1000) (hf:∀ a∈s.args,okE a.e) :
  Calls Tryz.prog 18 #[.pointer (some ⟨b,0,none⟩)] w (WkP b w (turnRw s)):=by
 have hb:b<w.heap.size:=loh h
 have HTR:Hid (turnRw s=if s.args.length≠1∨exprPos s.args≠some 0 then (s,2) else (⟨s.label,s.colon,sRST,[⟨[],[],false,false,eightE (arg0 s)⟩]⟩,0)):=LH (by unfold turnRw;rw [if_pos hop])
 have HN:=LH (fun W (hW:Below w.heap.size w W)=>wnumber_any s v W (hs.keep (fun p hp=>hW.cell hp.1) (fun g hg=>Nat.lt_of_lt_of_le hg.1 hW.size)))
 have HZ:=eI_zero (exprPos s.args)
 have HK:=LH h
 obtain ⟨A,c,rfl,hc,_⟩:=hs.form
 unfold WkAt at h
 rw [hop] at h
 unfold stV at HN
 rw [hop] at HN
 obtain ⟨⟨k0,k1,k2,k3⟩,f0,f1,f2,f3⟩:=four h
 by_cases h1:s.args.length=1
 ·obtain ⟨x,hx⟩:∃ x,s.args = [x]:=List.length_eq_one_iff.1 h1
  have HR:=LH (fun W (hW:Below w.heap.size w W)=>wrst_any b s.label s.colon sRST x (.slice A 1 c) W (by
   have e1:(⟨s.label,s.colon,sRST,[x]⟩:St)=s:=by rw [← hop,← hx]
   rw [e1]
   have:=HK.out
   rw [h1] at this
   exact (hW.block b hb).trans this) (by
   have:=hs
   rw [h1,hx] at this
   exact this.keep (fun p hp=>hW.cell hp.1) (fun g hg=>⟨Nat.lt_of_lt_of_le hg.1 hW.size,hg.2⟩)) (hf x (by rw [hx];simp)))
  have ha:arg0 s=x.e:=by unfold arg0;rw [hx];rfl
  rw [ha] at HTR
  generalize eI (exprPos s.args)=ep at *
  rw [h1] at k3 HN
  by_cases h2:exprPos s.args=some 0
  ·have HX:=LH (HTR.out.trans (if_neg (by simp [h1,h2])))
   have e2:(ep != 0)=false:=by rw [HZ];simp [h2]
   clear HTR HZ h2 hs hf h HK ha hx hop
   go_enter Tryz.func18, Tryz.ntmps18
   go_wp2_with fail
   refine (HN.out _ (Below.refl _ _)).mono ?_
   rintro e w1 ⟨rfl,hb1⟩
   have B1:=LH hb1
   clear hb1 HN
   go_wp2_with fail
   refine (HR.out _ B1.out).mono ?_
   rintro e w2 ⟨rfl,ht2,hr2⟩
   have HT2:=LH ht2
   have HR2:=LH hr2
   clear ht2 hr2 HR
   go_wp2_with fail
   go_ret
   rw [HX.out]
   exact ⟨rfl,(Turn.of_below B1.out).trans HT2.out,fun _=>HR2.out⟩
  ·have HX:=LH (HTR.out.trans (if_pos (.inr h2)))
   have e2:(ep != 0)=true:=by rw [HZ];simpa using h2
   clear HTR HZ h2 hs hf h HK ha hx hop HR
   go_enter Tryz.func18, Tryz.ntmps18
   go_wp2_with fail
   refine (HN.out _ (Below.refl _ _)).mono ?_
   rintro e w1 ⟨rfl,hb1⟩
   have B1:=LH hb1
   clear hb1 HN
   go_wp2_with fail
   go_ret
   rw [HX.out]
   exact WkP.bad 2 (by decide) B1.out
 ·have HX:=LH (HTR.out.trans (if_pos (.inl h1)))
  have e1:((s.args.length:Int) != 1)=true:=by rw [bne_iff_ne];omega
  clear HTR HZ hs hf h HK hop h1
  go_enter Tryz.func18, Tryz.ntmps18
  go_wp2_with fail
  go_ret
  rw [HX.out]
  exact WkP.bad 2 (by decide) (Below.refl _ _)
theorem zargs_len:∀ op,op<256->(zargs op).length<=2:=by decide +kernel
theorem find80_lt' {s:St} {num:List UInt8} {op:Nat} (h:tryRw s num=some op):op<256:=by
 unfold tryRw at h
 cases hf:find80 s.op (wordsRw num s.args) with
 | none=>rw [hf] at h;cases h
 | some q=>
  rw [hf] at h
  simp only at h
  split at h
  ·injection h with h;subst h;exact find80_lt hf
  ·cases h
theorem opcodeRw_lt {s:St} {op:Nat} (h:opcodeRw s=some op):op<256:=by
 unfold opcodeRw at h
 cases h0:tryRw s [] with
 | some q=>rw [h0] at h;injection h with h;subst h;exact find80_lt' h0
 | none=>
  rw [h0] at h
  simp only at h
  cases h1:tryRw s sD8 with
  | some q=>rw [h1] at h;injection h with h;subst h;exact find80_lt' h1
  | none=>rw [h1] at h;exact find80_lt' h
theorem exprPos_lt {l:List Ar} {i:Nat} (h:exprPos l=some i):i<l.length:=by
 obtain ⟨hk,_,_⟩:=List.findIdx?_eq_some_iff_getElem.1 h
 exact hk
theorem wturn_op (b:Nat) (s:St) (hop:s.op≠sRST) (v:Value) (w:World) (hg:GWL w) (h:WkAt w b s v) (hs:ArAt w (fun g=>g<w.heap.size/\g≠b) v s.args) (hl:s.args.length<=1000) :
  Calls Tryz.prog 18 #[.pointer (some ⟨b,0,none⟩)] w (WkP b w (turnRw s)):=by
 have hb:b<w.heap.size:=loh h
 have HTR:Hid (turnRw s=match opcodeRw s with
   | none=>(s,2)
   | some op=>(⟨s.label,s.colon,zname op,(zargs op).map (argRw (exprRw s.args))⟩,0)):=LH (by unfold turnRw;rw [if_neg hop];rfl)
 have HAT:=LH (fun W (hW:Below w.heap.size w W)=>(hs.keep (S':=(· < W.heap.size)) (fun p hp=>hW.cell hp.1) (fun g hg=>Nat.lt_of_lt_of_le hg.1 hW.size)))
 have HO:=LH (fun W (hW:Below w.heap.size w W)=>wopcode_any s v W (HAT.out W hW) hl)
 have HN:=LH (fun W (hW:Below w.heap.size w W)=>wnumber_any s v W (HAT.out W hW))
 have HLT:=LH (fun op (h:opcodeRw s=some op)=>opcodeRw_lt h)
 have HK:=LH h
 have HS:=LH hs
 obtain ⟨A,c,rfl,hc,_⟩:=hs.form
 unfold WkAt at h
 obtain ⟨⟨k0,k1,k2,k3⟩,f0,f1,f2,f3⟩:=four h
 have e0:(s.op == sRST)=false:=str_ne hop
 unfold stV at HO HN
 clear h hs hop HAT
 cases hoc:opcodeRw s with
 | none=>
  have HX:=LH (HTR.out.trans (by rw [hoc]))
  rw [hoc] at HO
  unfold findP at HO
  simp only at HO
  clear hoc HTR HLT HN
  go_enter Tryz.func18, Tryz.ntmps18
  go_wp2_with fail
  refine (HO.out _ (Below.refl _ _)).mono ?_
  rintro e w1 ⟨rfl,hb1⟩
  have B1:=LH hb1
  clear hb1 HO
  go_wp2_with fail
  go_ret
  rw [HX.out]
  exact WkP.bad 2 (by decide) B1.out
 | some op=>
  have hop8:=HLT.out op hoc
  obtain ⟨x,hx⟩:∃ x,x=exprRw s.args:=⟨_,rfl⟩
  have HX:Hid (turnRw s=(⟨s.label,s.colon,zname op,(zargs op).map (argRw x)⟩,0)):=LH (HTR.out.trans (by rw [hoc,hx]))
  have HZA:=LH (fun W (hW:Below w.heap.size w W)=>zargs_any op hop8 W (hg.below hW))
  have HZN:=LH (fun W (hW:Below w.heap.size w W)=>zname_any op hop8 W (hg.below hW))
  have hz2:=zargs_len op hop8
  have HLAY:=LH (fun A2 n2 c2 W (hW:Below w.heap.size w W)=>wlay_any b s _ (zname op) A2 n2 c2 W ((hW.block b hb).trans HK.out))
  have HLD:=LH (fun u args W (hW:Below w.heap.size w W)=>WkAt.laid (s:=s) (v:=.slice A s.args.length c) ((hW.block b hb).trans HK.out) (zname op) u args)
  rw [hoc] at HO
  unfold findP at HO
  simp only at HO
  have HPS:Hid (∀ i,exprPos s.args=some i->i<s.args.length/\x=(s.args.getD i ar0).e):=LH (fun i hi=>⟨exprPos_lt hi,by rw [hx];unfold exprRw;rw [hi]⟩)
  have HPN:Hid (exprPos s.args=none->x=ex0):=LH (fun hi=>by rw [hx];unfold exprRw;rw [hi])
  obtain ⟨ep,hep⟩:∃ ep,eI (exprPos s.args)=ep:=⟨_,rfl⟩
  rw [hep] at HN
  have HEP:=LH hep
  clear hep
  generalize turnRw s=res at *
  generalize zargs op=ws at *
  generalize zname op=zn at *
  clear hoc HTR HLT hx
  go_enter Tryz.func18, Tryz.ntmps18
  go_wp2_with fail
  refine (HO.out _ (Below.refl _ _)).mono ?_
  rintro e w1 ⟨rfl,hb1⟩
  have B1:=LH hb1
  have K1:=LH ((hb1.block b hb).trans HK.out)
  have hbw1:b<w1.heap.size:=loh K1.out
  clear hb1 HO k0 k1 k2 k3 f0 f1 f2 f3
  obtain ⟨⟨k0,k1,k2,k3⟩,f0,f1,f2,f3⟩:=four K1.out
  have BE:=LH (bra w1 (.cells #[Sn,.int .u16 0,Sn,Zs] 34))
  have OE:=LH (heap_alloc_new w1 (.cells #[Sn,.int .u16 0,Sn,Zs] 34))
  go_wp2_with fail
  refine (HN.out _ (bthen B1.out BE.out)).mono ?_
  rintro e w2 ⟨rfl,hb2⟩
  have B2:=LH (bthen (bthen B1.out BE.out) hb2)
  have O2:=LH ((hb2.block w1.heap.size (by simp)).trans OE.out)
  have K2:=LH ((B2.out.block b hb).trans HK.out)
  have hw2:w1.heap.size<w2.heap.size:=loh O2.out
  clear hb2 HN OE BE k0 k1 k2 k3 f0 f1 f2 f3
  obtain ⟨⟨k0,k1,k2,k3⟩,f0,f1,f2,f3⟩:=four K2.out
  obtain ⟨⟨x0,x1,x2,x3⟩,g0,g1,g2,g3⟩:=four O2.out
  go_upto_if 46 with (fail)
  go_cut [46,47,48,49,50,51,52,53,54,55] (fun _ _ _ _ _ _ _ _ _ _ wx=>Below w.heap.size w wx/\∃ xA xc,wx.heap[w1.heap.size]? = some (.cells #[Sx x.op,.int .u16 x.n,Sx x.name,.slice xA x.sub.length xc] 34 (0,0))/\SubAt wx (fun g=>g<w.heap.size/\g≠b) (.slice xA x.sub.length xc) x.sub)
  case first=>
   cases hp:exprPos s.args with
   | none=>
    obtain rfl:(-1:Int)=ep:=by rw [← HEP.out,hp];rfl
    clear HEP
    have hx0:=HPN.out hp
    have HX0:=LH hx0
    clear hp hx0
    go_wp2_with fail
    go_meet
    rw [HX0.out]
    exact ⟨B2.out,none,0,O2.out,SubAt.nil _ _⟩
   | some i=>
    obtain ⟨hi,hxi⟩:=HPS.out i hp
    obtain rfl:(i:Int)=ep:=by rw [← HEP.out,hp];rfl
    clear HEP
    have hi2:(i:Int)<(s.args.length:Int):=by omega
    obtain ⟨g,o,sv,rfl,⟨hgl,hgb⟩,c0,c1,c2,c3,c4,c5,c6,c7,hsub⟩:=HS.out.get i hi
    obtain ⟨sA,sc,rfl,_,_⟩:=hsub.form
    rw [List.getD_eq_getElem?_getD,List.getElem?_eq_getElem hi] at hxi
    have hxi2:x=s.args[i].e:=hxi
    rw [← hxi2] at c4 c5 c6 c7 hsub
    have d4:=(B2.out.cell (p:=⟨g,o+i * 8+4,none⟩) hgl).trans c4
    have d5:=(B2.out.cell (p:=⟨g,o+i * 8+5,none⟩) hgl).trans c5
    have d6:=(B2.out.cell (p:=⟨g,o+i * 8+6,none⟩) hgl).trans c6
    have d7:=(B2.out.cell (p:=⟨g,o+i * 8+7,none⟩) hgl).trans c7
    have HSB:=LH hsub
    clear hp hxi hxi2 c0 c1 c2 c3 c4 c5 c6 c7 hsub HS
    go_wp2_with fail
    go_meet
    refine ⟨?_,sA,sc,?_,?_⟩
    ·exact (((B2.out.setCell B1.out.size _).setCell B1.out.size _).setCell B1.out.size _).setCell B1.out.size _
    ·rw [heap_set (i:=3) _ (heap_set (i:=2) _ (heap_set (i:=1) _ (heap_set (i:=0) _ O2.out)))]
     rfl
    ·have hw1:=B1.out.size
     exact HSB.out.keep (fun p hp=>(((World.cell?_of_block (blk_off (by have:=hp.1;omega))).trans (World.cell?_of_block (blk_off (by have:=hp.1;omega)))).trans ((World.cell?_of_block (blk_off (by have:=hp.1;omega))).trans (World.cell?_of_block (blk_off (by have:=hp.1;omega))))).trans (B2.out.cell hp.1)) (fun g hg=>hg)
  case rest=>
   obtain ⟨hbc,xA,xc,hxe,hxs⟩:=hcut
   have BC:=LH hbc
   have XE:=LH hxe
   have XS:=LH hxs
   clear hbc hxe hxs k0 k1 k2 k3 f0 f1 f2 f3 x0 x1 x2 x3 g0 g1 g2 g3 O2 K2 B2 HPS HPN HS hw2
   go_wp2_with fail
   refine (HZA.out _ BC.out).mono ?_
   rintro e wl ⟨zv,rfl,hrd,hbl⟩
   have BCL:=LH (bthen BC.out hbl)
   have XE2:=LH ((hbl.block w1.heap.size (loh XE.out)).trans XE.out)
   have HXS:Hid (SubAt wl (fun g=>g<wl.heap.size/\g≠b) (.slice xA x.sub.length xc) x.sub):=LH (XS.out.keep (fun p hp=>hbl.cell (Nat.lt_of_lt_of_le hp.1 BC.out.size)) (fun g hg=>⟨Nat.lt_of_lt_of_le hg.1 BCL.out.size,hg.2⟩))
   have HRD:=LH hrd
   obtain ⟨zA,zc,rfl,hzc⟩:=hrd.form
   clear hrd hbl XE XS BC HZA
   go_wp2_with fail
   go_loopw [7,59] (fun u i wr=>∃ (k:Nat) (us:List Value) (vA:Option Addr) (vc:Nat),k<=ws.length/\u=.slice vA k vc/\i=.int .i64 k/\Below wl.heap.size wl wr/\ArRow wr wl.heap.size (fun g=>g≠b) (.slice vA k vc) ((ws.take k).map (argRw x)) us) (fun _ i _=>ws.length - (intOf i).toNat)
   case atStart=>exact ⟨0,[],none,0,Nat.zero_le _,rfl,rfl,Below.refl _ _,ArRow.nil _ _ _⟩
   case round=>
    obtain ⟨k,us,vA,vc,hk,rfl,rfl,hbw,har⟩:=hrel
    have BL:=LH hbw
    have HARG:=LH har
    have HKL:Hid (((ws.take k).map (argRw x)).length=k):=LH (by simp;omega)
    have hrow:=har.2.1
    rw [HKL.out] at hrow
    have HROW:=LH hrow
    have EX:=LH ((hbw.block w1.heap.size (loh XE2.out)).trans XE2.out)
    obtain ⟨⟨x0,x1,x2,x3⟩,g0,g1,g2,g3⟩:=four EX.out
    clear hbw har hrow
    by_cases hlt:k<ws.length
    ·have i1:(k:Int)<(ws.length:Int):=by omega
     obtain ⟨g,q,rfl,hgl,hcell⟩:=RdS.get HRD.out k hlt
     have ck:=(BL.out.cell (p:=⟨g,q+k,none⟩) hgl).trans (hcell k hlt)
     have HTK:Hid ((ws.take (k+1)).map (argRw x)=(ws.take k).map (argRw x)++[argRw x ws[k]]):=LH (by rw [List.take_succ_eq_append_getElem hlt,List.map_append];rfl)
     generalize ws[k]=y at *
     clear hcell
     by_cases hn:y = [110]∨y = [110,110]
     ·have e1:argRw x y=⟨[],[],false,false,x⟩:=by unfold argRw;rw [if_pos hn]
      rw [e1] at HTK
      clear e1
      rcases hn with rfl | rfl
      all_goals (
       have BA:=LH (bra wr (.cells #[Sn,Sn,Bf,Bf,Sx x.op,.int .u16 x.n,Sx x.name,.slice xA x.sub.length xc] 36))
       have HA8:=LH (HARG.out.bel BA.out).2.1
       rw [HKL.out] at HA8
       have HN8:Hid (Rd (wr.alloc (.cells #[Sn,Sn,Bf,Bf,Sx x.op,.int .u16 x.n,Sx x.name,.slice xA x.sub.length xc] 36)) (wr.heap.size+1) (.slice (some ⟨wr.heap.size,0,none⟩) 1 1) 1 (arCells ⟨[],[],false,false,x⟩ (.slice xA x.sub.length xc))):=LH (rd_new wr wr.heap.size rfl (arCells ⟨[],[],false,false,x⟩ (.slice xA x.sub.length xc)) 36)
       have HS8:Hid (SubAt (wr.alloc (.cells #[Sn,Sn,Bf,Bf,Sx x.op,.int .u16 x.n,Sx x.name,.slice xA x.sub.length xc] 36)) (fun g=>(g<(wr.alloc (.cells #[Sn,Sn,Bf,Bf,Sx x.op,.int .u16 x.n,Sx x.name,.slice xA x.sub.length xc] 36)).heap.size/\(Value.slice vA k vc).ownBlock≠some g)/\g≠b) (.slice xA x.sub.length xc) (Ar.e ⟨[],[],false,false,x⟩).sub):=LH (HXS.out.keep (fun p hp=>(BA.out.cell (p:=p) (Nat.lt_of_lt_of_le hp.1 BL.out.size)).trans (BL.out.cell hp.1)) (fun g hg=>⟨⟨Nat.lt_of_lt_of_le hg.1 (Nat.le_trans BL.out.size BA.out.size),fun hh=>by have:=(HROW.out.lt g hh).1;have h2:=hg.1;omega⟩,hg.2⟩))
       have hb8:wl.heap.size<=(wr.alloc (.cells #[Sn,Sn,Bf,Bf,Sx x.op,.int .u16 x.n,Sx x.name,.slice xA x.sub.length xc] 36)).heap.size:=Nat.le_trans BL.out.size BA.out.size
       go_wp2_with (at_builtin;refine wpList_append_to _ rfl (.tmp 72) (.tmp 75) 22 rfl wl.heap.size 36 _ 8 104 Tryz.underlying22 info_ar rfl (by omega) HA8.out rfl HN8.out rfl rfl (arCells_one ⟨[],[],false,false,x⟩ _ rfl) (by omega) (by omega) hb8 ?_;intro v9 w9 hown9 hbel9 hg9 hv9;obtain ⟨A9,c9,rfl,_,_,_⟩:=own_slice hown9 (by omega);have ON:=LH (ArRow.snoc HARG.out BA.out HS8.out (by rw [HKL.out];exact hown9) hg9 hv9);have B9:=LH ((BL.out.trans (BA.out.mono BL.out.size)).trans hbel9);clear hown9 hbel9 hg9 hv9 HA8 HN8 HS8 hb8)
       go_roundw
       case rel=>
        refine ⟨k+1,us++[.slice xA x.sub.length xc],A9,c9,by omega,rfl,by go_num,B9.out,?_⟩
        rw [HTK.out]
        exact ON.out
       case measure=>simp [intOf];omega)
     ·by_cases hm:y = [40,110,41]∨y = [40,110,110,41]
      ·have e1:argRw x y=⟨[],[],false,true,x⟩:=by unfold argRw;rw [if_neg hn,if_pos hm]
       rw [e1] at HTK
       clear e1 hn
       rcases hm with rfl | rfl
       all_goals (
        have BA:=LH (bra wr (.cells #[Sn,Sn,Bf,Bt,Sx x.op,.int .u16 x.n,Sx x.name,.slice xA x.sub.length xc] 36))
        have HA8:=LH (HARG.out.bel BA.out).2.1
        rw [HKL.out] at HA8
        have HN8:Hid (Rd (wr.alloc (.cells #[Sn,Sn,Bf,Bt,Sx x.op,.int .u16 x.n,Sx x.name,.slice xA x.sub.length xc] 36)) (wr.heap.size+1) (.slice (some ⟨wr.heap.size,0,none⟩) 1 1) 1 (arCells ⟨[],[],false,true,x⟩ (.slice xA x.sub.length xc))):=LH (rd_new wr wr.heap.size rfl (arCells ⟨[],[],false,true,x⟩ (.slice xA x.sub.length xc)) 36)
        have HS8:Hid (SubAt (wr.alloc (.cells #[Sn,Sn,Bf,Bt,Sx x.op,.int .u16 x.n,Sx x.name,.slice xA x.sub.length xc] 36)) (fun g=>(g<(wr.alloc (.cells #[Sn,Sn,Bf,Bt,Sx x.op,.int .u16 x.n,Sx x.name,.slice xA x.sub.length xc] 36)).heap.size/\(Value.slice vA k vc).ownBlock≠some g)/\g≠b) (.slice xA x.sub.length xc) (Ar.e ⟨[],[],false,true,x⟩).sub):=LH (HXS.out.keep (fun p hp=>(BA.out.cell (p:=p) (Nat.lt_of_lt_of_le hp.1 BL.out.size)).trans (BL.out.cell hp.1)) (fun g hg=>⟨⟨Nat.lt_of_lt_of_le hg.1 (Nat.le_trans BL.out.size BA.out.size),fun hh=>by have:=(HROW.out.lt g hh).1;have h2:=hg.1;omega⟩,hg.2⟩))
        have hb8:wl.heap.size<=(wr.alloc (.cells #[Sn,Sn,Bf,Bt,Sx x.op,.int .u16 x.n,Sx x.name,.slice xA x.sub.length xc] 36)).heap.size:=Nat.le_trans BL.out.size BA.out.size
        go_wp2_with (at_builtin;refine wpList_append_to _ rfl (.tmp 80) (.tmp 83) 22 rfl wl.heap.size 36 _ 8 104 Tryz.underlying22 info_ar rfl (by omega) HA8.out rfl HN8.out rfl rfl (arCells_one ⟨[],[],false,true,x⟩ _ rfl) (by omega) (by omega) hb8 ?_;intro v9 w9 hown9 hbel9 hg9 hv9;obtain ⟨A9,c9,rfl,_,_,_⟩:=own_slice hown9 (by omega);have ON:=LH (ArRow.snoc HARG.out BA.out HS8.out (by rw [HKL.out];exact hown9) hg9 hv9);have B9:=LH ((BL.out.trans (BA.out.mono BL.out.size)).trans hbel9);clear hown9 hbel9 hg9 hv9 HA8 HN8 HS8 hb8)
        go_roundw
        case rel=>
         refine ⟨k+1,us++[.slice xA x.sub.length xc],A9,c9,by omega,rfl,by go_num,B9.out,?_⟩
         rw [HTK.out]
         exact ON.out
        case measure=>simp [intOf];omega)
      ·have e1:argRw x y=⟨y,[],false,false,ex0⟩:=by unfold argRw;rw [if_neg hn,if_neg hm]
       have q1:=str_ne (fun h=>hn (.inl h))
       have q2:=str_ne (fun h=>hn (.inr h))
       have q3:=str_ne (fun h=>hm (.inl h))
       have q4:=str_ne (fun h=>hm (.inr h))
       rw [e1] at HTK
       clear e1 hn hm
       have BA:=LH (bra wr (.cells #[Sx y,Sn,Bf,Bf,Sn,.int .u16 0,Sn,Zs] 36))
       have HA8:=LH (HARG.out.bel BA.out).2.1
       rw [HKL.out] at HA8
       have HN8:Hid (Rd (wr.alloc (.cells #[Sx y,Sn,Bf,Bf,Sn,.int .u16 0,Sn,Zs] 36)) (wr.heap.size+1) (.slice (some ⟨wr.heap.size,0,none⟩) 1 1) 1 (arCells ⟨y,[],false,false,ex0⟩ (Zs))):=LH (rd_new wr wr.heap.size rfl (arCells ⟨y,[],false,false,ex0⟩ (Zs)) 36)
       have HS8:Hid (SubAt (wr.alloc (.cells #[Sx y,Sn,Bf,Bf,Sn,.int .u16 0,Sn,Zs] 36)) (fun g=>(g<(wr.alloc (.cells #[Sx y,Sn,Bf,Bf,Sn,.int .u16 0,Sn,Zs] 36)).heap.size/\(Value.slice vA k vc).ownBlock≠some g)/\g≠b) (Zs) (Ar.e ⟨y,[],false,false,ex0⟩).sub):=LH (SubAt.nil _ _)
       have hb8:wl.heap.size<=(wr.alloc (.cells #[Sx y,Sn,Bf,Bf,Sn,.int .u16 0,Sn,Zs] 36)).heap.size:=Nat.le_trans BL.out.size BA.out.size
       go_wp2_with (at_builtin;refine wpList_append_to _ rfl (.tmp 64) (.tmp 67) 22 rfl wl.heap.size 36 _ 8 104 Tryz.underlying22 info_ar rfl (by omega) HA8.out rfl HN8.out rfl rfl (arCells_one ⟨y,[],false,false,ex0⟩ _ rfl) (by omega) (by omega) hb8 ?_;intro v9 w9 hown9 hbel9 hg9 hv9;obtain ⟨A9,c9,rfl,_,_,_⟩:=own_slice hown9 (by omega);have ON:=LH (ArRow.snoc HARG.out BA.out HS8.out (by rw [HKL.out];exact hown9) hg9 hv9);have B9:=LH ((BL.out.trans (BA.out.mono BL.out.size)).trans hbel9);clear hown9 hbel9 hg9 hv9 HA8 HN8 HS8 hb8)
       go_roundw
       case rel=>
        refine ⟨k+1,us++[Zs],A9,c9,by omega,rfl,by go_num,B9.out,?_⟩
        rw [HTK.out]
        exact ON.out
       case measure=>simp [intOf];omega
    ·obtain rfl:k=ws.length:=by omega
     have BWR:=LH (bthen BCL.out BL.out)
     have HFIN:=LH (HARG.out.arAt (fun g hg=>by have:=BCL.out.size;omega))
     rw [List.take_length] at HFIN
     go_wp2_with fail
     refine (HZN.out _ BWR.out).mono ?_
     rintro e w8 ⟨rfl,hb8⟩
     have B8:=LH (bthen BWR.out hb8)
     have HNB:Hid (ArAt w8 (fun g=>g<w8.heap.size/\g≠b) (.slice vA ws.length vc) (ws.map (argRw x))):=LH (HFIN.out.keep (fun p hp=>hb8.cell hp.1) (fun g hg=>⟨Nat.lt_of_lt_of_le hg.1 hb8.size,hg.2⟩))
     clear hb8 HZN
     go_wp2_with fail
     refine (HLAY.out _ _ _ _ B8.out).mono ?_
     rintro e w9 ⟨rfl,hw9⟩
     have HW9:=LH hw9
     clear hw9 HLAY
     go_wp2_with fail
     go_ret
     obtain rfl:=HW9.out
     rw [HX.out]
     exact ⟨rfl,((Turn.of_below B8.out).set b 2 _ (.inl (by simp))).set b 3 _ (.inl (by simp)),fun _=>⟨_,HLD.out _ _ _ B8.out,((HNB.out.putOff (fun g hg=>hg.2) 2 _).putOff (fun g hg=>hg.2) 3 _).more (fun g hg=>⟨by simpa using hg.1,hg.2⟩)⟩⟩
theorem rightS_expr {s:St} (h:rightS 0 s=0):∀ a∈s.args,a.w = []->a.is=false->rightE a.e 24=true:=by
 intro a ha hw his
 have hall:s.args.all (rightA 0 s.op)=true:=by
  unfold rightS at h
  repeat (split at h;· cases h)
  next h5=>simpa using h5
 have h1:=List.all_eq_true.1 hall a ha
 unfold rightA at h1
 rw [if_neg (by simp [hw]),if_neg (by simp [his])] at h1
 split at h1
 ·cases h1
 ·next h2=>
  simp only [not_or] at h2
  simpa using h2.2.2
theorem renArs_ok (l:List Ar) (h:∀ j (hj:j<l.length),(renAr l[j]).2=0):renArs l=(l.map (fun a=>(renAr a).1),0):=by
 induction l with
 | nil=>rfl
 | cons a r ih=>
  have h0:=h 0 (by simp)
  have hr:=ih (fun j hj=>h (j+1) (by simp;omega))
  simp only [List.getElem_cons_zero] at h0
  rw [renArs,h0,hr]
  rfl
theorem renArs_bad (l:List Ar):∀ k (hk:k<l.length),(∀ j (hj:j<l.length),j<k->(renAr l[j]).2=0)->(renAr l[k]).2≠0->renArs l=([],(renAr l[k]).2):=by
 induction l with
 | nil=>intro k hk;simp at hk
 | cons a r ih=>
  intro k hk h0 h
  cases k with
  | zero=>
   simp only [List.getElem_cons_zero] at h ⊢
   rw [renArs,if_pos h]
  | succ k=>
   have h1:=h0 0 (by simp) (by omega)
   have h2:=ih k (by simpa using hk) (fun j hj hjk=>h0 (j+1) (by simp;omega) (by omega)) (by simpa using h)
   simp only [List.getElem_cons_zero,List.getElem_cons_succ] at h1 h ⊢
   rw [renArs,h1,h2]
   simp [h]
def mixA (l:List Ar) (k:Nat):List Ar:=(l.take k).map (fun a=>(renAr a).1)++l.drop k
theorem mix_len (l:List Ar) (k:Nat) (hk:k<=l.length):(mixA l k).length=l.length:=by
 unfold mixA
 simp
 omega
theorem mix_zero (l:List Ar):mixA l 0=l:=by simp [mixA]
theorem mix_full (l:List Ar):mixA l l.length=l.map (fun a=>(renAr a).1):=by simp [mixA]
theorem mix_get (l:List Ar) (k:Nat) (hk:k<l.length):(mixA l k)[k]'(by rw [mix_len l k (by omega)];exact hk)=l[k]:=by
 have h1:(mixA l k)[k]? = some l[k]:=by
  unfold mixA
  rw [List.getElem?_append_right (by simp;omega)]
  simp [Nat.min_eq_left (Nat.le_of_lt hk),hk]
 exact (List.getElem?_eq_some_iff.1 h1).2
theorem mix_step (l:List Ar) (k:Nat) (hk:k<l.length):mixA l (k+1)=(mixA l k).set k (renAr l[k]).1:=by
 unfold mixA
 have e:((l.take k).map (fun a=>(renAr a).1)).length=k:=by simp;omega
 rw [List.set_append_right _ _ (by rw [e];exact Nat.le_refl _),e,Nat.sub_self,List.drop_eq_getElem_cons hk,List.set_cons_zero,List.take_succ_eq_append_getElem hk,List.map_append,List.append_assoc]
 rfl
theorem mix_skip (l:List Ar) (k:Nat) (hk:k<l.length) (h:(renAr l[k]).1=l[k]):mixA l (k+1)=mixA l k:=by
 rw [mix_step l k hk,h]
 have:=mix_get l k hk
 conv=>lhs;rw [← this]
 exact List.set_getElem_self _
theorem ArRow.weak {w:World} {base:Nat} {T T':Nat->Prop} {v:Value} {l:List Ar} {us:List Value} (h:ArRow w base T v l us) (hT:∀ g,T g->T' g):ArRow w base T' v l us:=
 ⟨h.1,h.2.1,fun i hi=>(h.2.2 i hi).more (fun g hg=>⟨hg.1,hT g hg.2⟩)⟩
theorem ArRow.get {w:World} {base:Nat} {T:Nat->Prop} {A:Option Addr} {n c:Nat} {l:List Ar} {us:List Value} (h:ArRow w base T (.slice A n c) l us) (i:Nat) (hi:i<l.length) :
  ∃ (g:Nat) (sA:Option Addr) (sc:Nat),A=some ⟨g,0,none⟩/\base<=g/\g<w.heap.size/\(∀ j,w.frozen? ⟨g,j,none⟩=false)/\w.cell? ⟨g,i * 8,none⟩=some (.string ⟨l[i].w.toArray⟩)/\w.cell? ⟨g,i * 8+1,none⟩=some (.string ⟨l[i].t.toArray⟩)/\w.cell? ⟨g,i * 8+2,none⟩=some (.bool l[i].is)/\w.cell? ⟨g,i * 8+3,none⟩=some (.bool l[i].mem) /\
   w.cell? ⟨g,i * 8+4,none⟩=some (.string ⟨l[i].e.op.toArray⟩)/\w.cell? ⟨g,i * 8+5,none⟩=some (.int .u16 l[i].e.n)/\w.cell? ⟨g,i * 8+6,none⟩=some (.string ⟨l[i].e.name.toArray⟩)/\w.cell? ⟨g,i * 8+7,none⟩=some (.slice sA l[i].e.sub.length sc)/\SubAt w (fun k=>(k<w.heap.size/\k≠g)/\T k) (.slice sA l[i].e.sub.length sc) l[i].e.sub:=by
 obtain ⟨h1,h2,h3⟩:=h
 obtain ⟨A',c',e1,_,_,hrow⟩:=own_slice h2 (by decide)
 injection e1 with e1 _ _
 subst e1
 obtain ⟨g,rfl,hb,hg,_,hc⟩:=hrow (by omega)
 have hsi:=h3 i hi
 obtain ⟨sA,sc,e2,_,_⟩:=hsi.form
 rw [e2] at hsi
 have hfz:∀ j,w.frozen? ⟨g,j,none⟩=false:=by
  rcases h2.2 with ⟨e3,_⟩ | ⟨g',cap,cur,e3,_,e4,_⟩
  ·injection e3 with e3 _ _;cases e3
  ·injection e3 with e3 _ _
   injection e3 with e3
   injection e3 with e3 _
   subst e3
   intro j
   rw [foh e4]
   simp
 have G:∀ j u,(arCells l[i] (.slice sA l[i].e.sub.length sc))[j]? = some u->w.cell? ⟨g,i * 8+j,none⟩=some u:=fun j u hu=>
  hc _ _ (rowV_get arCells_len l us h1 i hi j u (by rw [e2];exact hu))
 exact ⟨g,sA,sc,rfl,hb,hg,hfz,G 0 _ rfl,G 1 _ rfl,G 2 _ rfl,G 3 _ rfl,G 4 _ rfl,G 5 _ rfl,G 6 _ rfl,G 7 _ rfl,hsi.more (fun k hk=>⟨⟨hk.1.1,fun e=>hk.1.2 (by rw [e];rfl)⟩,hk.2⟩)⟩
theorem rowV_set4 (e:Ex) (u':Value) (l:List Ar):∀ (us:List Value) (i:Nat) (hi:i<l.length),us.length=l.length ->
  ((((rowV arCells l us).set (i * 8+4) (.string ⟨e.op.toArray⟩)).set (i * 8+5) (.int .u16 e.n)).set (i * 8+6) (.string ⟨e.name.toArray⟩)).set (i * 8+7) u'=rowV arCells (l.set i ⟨l[i].w,l[i].t,l[i].is,l[i].mem,e⟩) (us.set i u'):=by
 induction l with
 | nil=>intro us i hi;simp at hi
 | cons a r ih=>
  intro us i hi hl
  cases us with
  | nil=>simp at hl
  | cons u us=>
   cases i with
   | zero=>simp [rowV,arCells]
   | succ i=>
    have h1:=ih us i (by simpa using hi) (by simpa using hl)
    have e8:(arCells a u).length=8:=rfl
    simp only [rowV,List.set_cons_succ,List.getElem_cons_succ]
    rw [List.set_append_right _ _ (by rw [e8];omega),List.set_append_right _ _ (by rw [e8];omega),List.set_append_right _ _ (by rw [e8];omega),List.set_append_right _ _ (by rw [e8];omega),e8]
    rw [show (i+1) * 8+4 - 8=i * 8+4 by omega,show (i+1) * 8+5 - 8=i * 8+5 by omega,show (i+1) * 8+6 - 8=i * 8+6 by omega,show (i+1) * 8+7 - 8=i * 8+7 by omega,h1]
theorem ArRow.upd {w:World} {base:Nat} {T:Nat->Prop} {g n c:Nat} {l:List Ar} {us:List Value} (h:ArRow w base T (.slice (some ⟨g,0,none⟩) n c) l us) (i:Nat) (hi:i<l.length) (e:Ex) (u':Value) (hs:SubAt w (fun k=>(k<w.heap.size/\k≠g)/\T k) u' e.sub) :
  ArRow ((((w.setCell ⟨g,i * 8+4,none⟩ (.string ⟨e.op.toArray⟩)).setCell ⟨g,i * 8+5,none⟩ (.int .u16 e.n)).setCell ⟨g,i * 8+6,none⟩ (.string ⟨e.name.toArray⟩)).setCell ⟨g,i * 8+7,none⟩ u') base T (.slice (some ⟨g,0,none⟩) n c) (l.set i ⟨l[i].w,l[i].t,l[i].is,l[i].mem,e⟩) (us.set i u'):=by
 obtain ⟨h1,h2,h3⟩:=h
 have hold:∀ p:Addr,p.block≠g->((((w.setCell ⟨g,i * 8+4,none⟩ (Sx e.op)).setCell ⟨g,i * 8+5,none⟩ (.int .u16 e.n)).setCell ⟨g,i * 8+6,none⟩ (Sx e.name)).setCell ⟨g,i * 8+7,none⟩ u').cell? p=w.cell? p:=fun p hp=>
  (World.cell?_of_block (blk_off hp)).trans ((World.cell?_of_block (blk_off hp)).trans ((World.cell?_of_block (blk_off hp)).trans (World.cell?_of_block (blk_off hp))))
 refine ⟨by simp [h1],?_,fun j hj=>?_⟩
 ·refine ⟨by rw [rowV_len arCells_len _ _ (by simp [h1])],?_⟩
  rcases h2.2 with ⟨e3,_⟩ | ⟨g',cap,cur,e3,q1,q2,q3,q4,q5,q6⟩
  ·injection e3 with e3 _ _;cases e3
  ·injection e3 with e3 e4 e5
   injection e3 with e3
   injection e3 with e3 _
   subst e3
   refine .inr ⟨g,cap,_,by rw [e4,e5,List.length_set],q1,heap_set (i:=i * 8+7) _ (heap_set (i:=i * 8+6) _ (heap_set (i:=i * 8+5) _ (heap_set (i:=i * 8+4) _ q2))),by rw [List.length_set];exact q3,q4,by simp [q5],?_⟩
   rw [List.length_set,← rowV_set4 e u' l us i hi h1,← q6]
   simp only [Array.toList_setIfInBounds,List.take_set]
 ·have hj':j<l.length:=by simpa using hj
  by_cases hij:i=j
  ·subst hij
   rw [List.getD_eq_getElem?_getD,List.getElem?_set_self (by omega)]
   simp only [List.getElem_set_self,Option.getD_some]
   exact hs.keep (fun p hp=>hold p hp.1.2) (fun k hk=>⟨⟨by simpa using hk.1.1,fun e=>hk.1.2 (by injection e with e;exact e.symm)⟩,hk.2⟩)
  ·rw [List.getD_eq_getElem?_getD,List.getElem?_set_ne hij,← List.getD_eq_getElem?_getD,List.getElem_set_ne hij]
   exact (h3 j hj').keep (fun p hp=>hold p (fun e=>hp.1.2 (by rw [e];rfl))) (fun k hk=>⟨⟨by simpa using hk.1.1,hk.1.2⟩,hk.2⟩)
theorem ArRow.upd' {w:World} {base:Nat} {T:Nat->Prop} {g n c:Nat} {l:List Ar} {us:List Value} (h:ArRow w base T (.slice (some ⟨g,0,none⟩) n c) l us) (i:Nat) (hi:i<l.length) (e:Ex) (u':Value) (hs:SubAt w (fun k=>(k<w.heap.size/\k≠g)/\T k) u' e.sub) :
  ArRow ((((w.setCell ⟨g,i * 8+4,none⟩ (.string ⟨e.op.toArray⟩)).setCell ⟨g,i * 8+4+1,none⟩ (.int .u16 e.n)).setCell ⟨g,i * 8+4+2,none⟩ (.string ⟨e.name.toArray⟩)).setCell ⟨g,i * 8+4+3,none⟩ u') base T (.slice (some ⟨g,0,none⟩) n c) (l.set i ⟨l[i].w,l[i].t,l[i].is,l[i].mem,e⟩) (us.set i u'):=h.upd i hi e u' hs
theorem ArRow.low {w:World} {base base':Nat} {T:Nat->Prop} {v:Value} {l:List Ar} {us:List Value} (h:ArRow w base T v l us) (hb:base'<=base):ArRow w base' T v l us:=
 ⟨h.1,⟨h.2.1.1,h.2.1.2.imp id fun ⟨g,cap,cur,h1,h2,h3,h4⟩=>⟨g,cap,cur,h1,Nat.le_trans hb h2,h3,h4⟩⟩,h.2.2⟩
theorem ArRow.alien {w:World} {base:Nat} {T:Nat->Prop} {v:Value} {l:List Ar} {us:List Value} (h:ArRow w base T v l us) {b:Nat} (hb:b<base) (hT:∀ g,T g->g≠b) (i:Nat) (u:Value):ArRow (w.setCell ⟨b,i,none⟩ u) base T v l us:=
 ⟨h.1,ownsRow_setCell_below h.2.1 hb u,fun j hj=>(h.2.2 j hj).keep (fun p hp=>World.cell?_of_block (blk_off (hT _ hp.2))) (fun g hg=>⟨⟨by simpa using hg.1.1,hg.1.2⟩,hg.2⟩)⟩
theorem cell_box {w:World} {b n m i:Nat} {a d:ByteArray} {c:Bool} {A:Option Addr} {T:TypeId} {fr:Nat × Nat} (hb:w.heap[b]? = some (.cells #[.string a,.bool c,.string d,.slice A n m] T fr)) {k:IntKind} {x:Int} (h:w.cell? ⟨b,i,none⟩=some (.int k x)):False:=by
 rw [coh hb] at h
 match i,h with
 | 0,h=>simp at h
 | 1,h=>simp at h
 | 2,h=>simp at h
 | 3,h=>simp at h
 | i+4,h=>simp at h
theorem SubAt.offS {w:World} {S:Nat->Prop} {v:Value} {l:List Ex} {b n m:Nat} {a d:ByteArray} {c:Bool} {A:Option Addr} {T:TypeId} {fr:Nat × Nat} (h:SubAt w S v l) (hb:w.heap[b]? = some (.cells #[.string a,.bool c,.string d,.slice A n m] T fr)):SubAt w (fun k=>S k/\k≠b) v l:=by
 induction h with
 | mk A c sub vs hc hm hz hn hs ih=>
  refine .mk A c sub vs hc hm (fun h0=>?_) hn ih
  obtain ⟨g,o,g1,g2,g3⟩:=hz h0
  refine ⟨g,o,g1,⟨g2,fun e=>?_⟩,g3⟩
  subst e
  exact cell_box hb (g3 0 h0).2.1
theorem ArAt.offS {w:World} {S:Nat->Prop} {v:Value} {l:List Ar} {b n m:Nat} {a d:ByteArray} {c:Bool} {A:Option Addr} {T:TypeId} {fr:Nat × Nat} (h:ArAt w S v l) (hb:w.heap[b]? = some (.cells #[.string a,.bool c,.string d,.slice A n m] T fr)):ArAt w (fun k=>S k/\k≠b) v l:=by
 obtain ⟨A',c',vs,h1,h2,h3,h4,h5⟩:=h
 refine ⟨A',c',vs,h1,h2,h3,fun h0=>?_,fun i hi=>(h5 i hi).offS hb⟩
 obtain ⟨g,o,g1,g2,g3⟩:=h4 h0
 refine ⟨g,o,g1,⟨g2,fun e=>?_⟩,g3⟩
 subst e
 exact cell_box hb (g3 0 h0 5 _ rfl)
abbrev dirText:List UInt8:=[32,79,82,71,32,69,81,85,32,83,69,84,32,68,66,32,68,87,32,68,83,32,73,70,32,69,78,68,73,70,32,69,78,68]
theorem split_dir:Lib.splitK [32] 0 (Lib.count dirText [32]) dirText=dirOps:=by decide +kernel
theorem splitD_any (w:World) (hg:GW w) :
  Calls Tryz.prog 17 #[.string ⟨dirText.toArray⟩,.string ⟨#[32]⟩] w fun e w'=>e=.returned (.slice (some ⟨w.heap.size,0,none⟩) 10 10)/\w'=w.alloc (.cells (dirOps.map strV).toArray 9):=by
 obtain ⟨m,hm⟩:=hg
 have e1:(Lib.splitB ⟨#[32]⟩ 0 (Lib.countB ⟨dirText.toArray⟩ ⟨#[32]⟩) ⟨dirText.toArray⟩).map (·.data.toList)=dirOps:=by
  rw [Lib.splitB_data]
  exact split_dir
 have e2:=Lib.splitB_all ⟨#[32]⟩ (by simp [ByteArray.size]) 0 _ ⟨dirText.toArray⟩ rfl
 have e3:Lib.countB ⟨dirText.toArray⟩ ⟨#[32]⟩+1=10:=by rw [← e2,← List.length_map (f:=(·.data.toList)),e1];rfl
 refine (Tryz.strings_Split ⟨dirText.toArray⟩ ⟨#[32]⟩ m w (by simp [ByteArray.size]) hm (by simp [ByteArray.size])).mono ?_
 rintro e w' ⟨rfl,rfl⟩
 rw [e3,strs_of_bytes,e1]
 exact ⟨rfl,rfl⟩
theorem dir_cells (w:World):∀ j (hj:j<dirOps.length),(w.alloc (.cells (dirOps.map strV).toArray 9)).cell? ⟨w.heap.size,j,none⟩=some (.string ⟨dirOps[j].toArray⟩):=fun j hj=>by
 rw [coh (heap_alloc_new w _)]
 simp [hj,strV]
theorem wstmt1_any (a:Ar) (v:Value) (W:World) (hs:SubAt W (· < W.heap.size) v a.e.sub):Calls Tryz.prog 20 (#[arV a v] ++ #[]) W fun e w'=>e=.returned (.bool (a.w != []))/\Below W.heap.size W w':=by
 obtain ⟨vA,vc,rfl,_,_⟩:=hs.form
 clear hs
 unfold arV
 have B1:=LH (bra W (.cells #[Sx a.w,Sx a.t,.bool a.is,.bool a.mem,Sx a.e.op,.int .u16 a.e.n,Sx a.e.name,.slice vA a.e.sub.length vc] 36))
 by_cases h1:a.w = []
 ·have hx:(a.w != [])=false:=by rw [h1];rfl
  rw [hx]
  rw [h1] at B1 ⊢
  clear hx h1
  simp only [Array.append_empty]
  go_enter Tryz.func20, Tryz.ntmps20
  go_wp2_with fail
  go_ret
  exact ⟨rfl,B1.out⟩
 ·have hx:(a.w != [])=true:=by simpa using h1
  rw [hx]
  have h2:=str_ne h1
  have h3:(a.w != [])=true:=hx
  clear hx h1
  simp only [Array.append_empty]
  go_enter Tryz.func20, Tryz.ntmps20
  go_wp2_with fail
  go_ret
  exact ⟨rfl,B1.out⟩
theorem wstmt1_enter (args:Array Value) (W:World):(callFunc 20 args).run Tryz.prog W=.ok (.enter 20 args) W:=enters_of Tryz.func20 (by kernel_rfl) rfl args W
theorem wturn_any (b:Nat) (s:St) (v:Value) (w:World) (hg:GWL w) (h:WkAt w b s v) (hs:ArAt w (fun g=>g<w.heap.size/\g≠b) v s.args) (hl:s.args.length<=1000) (hf:∀ a∈s.args,okE a.e) :
  Calls Tryz.prog 18 #[.pointer (some ⟨b,0,none⟩)] w (WkP b w (turnRw s)):=by
 by_cases hop:s.op=sRST
 ·exact wturn_rst b s hop v w h hs hl hf
 ·exact wturn_op b s hop v w hg h hs hl
end Go.Proofs.YtijgppokofganaaGreatDoor
