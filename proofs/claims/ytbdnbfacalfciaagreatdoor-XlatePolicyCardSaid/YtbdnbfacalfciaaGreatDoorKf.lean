/- Kf. -/
import Derived.Test.YtbdnbfacalfciaaGreatDoorKe
import Derived.IntWalk
import Derived.Deep.RegionWith
import Derived.RegionTactic
import Derived.BigRegion
namespace Go.Proofs.YtbdnbfacalfciaaGreatDoor
set_option maxRecDepth 100000
set_option maxHeartbeats 4000000
open Go.RowKit
theorem unary3_any (f b L:Nat) (h3:∀ L',L'<L->BinH f 3 b L') (h4:BinH f 4 b L) (s:PS) (w:World) (hp:PSt w b s) (hl:s.ts.length<=L) (hL:L<=100000) (hop:s.op<=48) :
  Calls Tryz.prog 242 #[.pointer (some ⟨b,0,none⟩),.int .i64 3] w (PPost b w (pP (f+1) 3 s)):=by
 have hlt:=hp.lt
 have HP:=LH hp
 have hlen:s.ts.length<=1000000:=by omega
 clear hp
 obtain ⟨x,hx⟩:∃ x,atT s.ts 1 [sNOT]=x:=⟨_,rfl⟩
 have HX:=LH hx
 have HA:Hid (pP (f+1) 3 s=if x.isSome then (.mk sNOT 0 [] [(wIn (pP (f) 3) s.skip).1],(wIn (pP (f) 3) s.skip).2) else pP (f) 4 s):=LH (by rw [pP_succ];simp [hx])
 clear hx
 cases x with
 | some o=>
  rw [if_pos (by simp)] at HA
  obtain ⟨u,q,huq⟩:∃ u q,s.ts=u :: q:=by
   cases h:s.ts with
   | nil=>have:=HX.out;rw [h] at this;simp [atT] at this
   | cons u q=>exact ⟨u,q,rfl⟩
  have hL1:1<=s.ts.length:=by rw [huq];simp
  have hl4:s.skip.ts.length<=L - 1:=by simp [PS.skip];omega
  have hop2:s.skip.op<=48:=hop
  have HUQ:=LH huq
  clear huq
  have hWI:∀ W,PSt W b s.skip->Calls Tryz.prog 265 #[.pointer (some ⟨b,0,none⟩),.int .i64 3] W (PPost b W (wIn (pP (f) 3) s.skip)):=fun W h1=>within_any (f) 3 b (L - 1) (h3 (L - 1) (by omega)) s.skip W h1 hl4 hop2
  have HWI:=LH hWI
  clear hWI h3 h4
  generalize pP (f+1) 3 s=res at *
  generalize wIn (pP (f) 3) s.skip=wi at *
  go_enter Tryz.func242, Tryz.ntmps242
  go_wp2_with fail
  refine (at_any s 1 [sNOT] b (w.heap.size+1) 1 _ ((HP.out.alloc _).alloc _) hlen rfl (by simp) (by have:=strs_new (w.alloc (.cells #[.string ⟨#[]⟩,.int .u16 0,.string ⟨#[]⟩,.slice none 0 0] 70)) [sNOT] 9;rwa [show (w.alloc (.cells #[.string ⟨#[]⟩,.int .u16 0,.string ⟨#[]⟩,.slice none 0 0] 70)).heap.size=w.heap.size+1 by simp] at this)).mono ?_
  rintro e w1 ⟨rfl,hw1⟩
  rw [HX.out]
  have hps1:PSt w1 b s:=by rw [← hw1];exact (HP.out.alloc _).alloc _
  have hg1:w.grownBy w1 (some b):=by rw [← hw1];exact only_alloc (only_alloc (grow_refl _ _) _) _
  have hsz1:w.heap.size+2=w1.heap.size:=by rw [← hw1];simp
  have hh1:w1.heap[w.heap.size]? = some (.cells #[.string ⟨#[]⟩,.int .u16 0,.string ⟨#[]⟩,.slice none 0 0] 70 (0,0)):=by
   rw [← hw1,hao _ _ _ (by simp)];exact heap_last rfl _
  clear hw1
  simp only [atV]
  go_wp2_with fail
  refine (skip_any s u q b _ hps1 HUQ.out hlen).mono ?_
  rintro e w2 ⟨rfl,hps2,hgr2⟩
  have hg2:w.grownBy w2 (some b):=grow_trans hg1 hgr2
  have hh2:=(hgr2.block w.heap.size (by omega) (by simp;omega)).trans hh1
  have hsz2:=hgr2.size
  clear hgr2 hh1 hg1 hps1
  go_wp2_with fail
  refine (HWI.out _ hps2).mono ?_
  rintro e w4 ⟨vs,rfl,hsub,hok,hps4,hgr4⟩
  obtain ⟨sA,sc,rfl,hsc,hsm⟩:=hsub.form
  have hg4:w.grownBy w4 (some b):=grow_trans hg2 hgr4
  have hh4:=(hgr4.block w.heap.size (by omega) (by simp;omega)).trans hh2
  have hsz4:=hgr4.size
  obtain ⟨⟨k0,k1,k2,k3⟩,g0,g1,g2,g3⟩:=four hh4
  have hH:w.heap.size<w4.heap.size:=by omega
  have HSUB:=LH hsub
  have HOK:=LH hok
  clear hsub hok hgr4 hh4 hh2 hps2 HWI
  go_wp2_with fail
  rw [HA.out]
  refine bodyPost_ret (v:=.agg #[.string ⟨(sNOT:List UInt8).toArray⟩,.int .u16 0,.string ⟨#[]⟩,.slice (some ⟨w4.heap.size,0,none⟩) 1 1]) (by simp [results,Tryz.results242,go_sem,k0,k1,k2,k3,hH]) rfl ⟨_,rfl,?_,ok_mk (by omega) (by simp) (by simp),?_,?_⟩
  ·exact SubAt.one (HSUB.out.four (k:=w.heap.size) (S':=fun g=>w2.heap.size<=g/\g<w4.heap.size) (by omega) (fun g hg=>hg) _ _ _ _) HOK.out (fun g hg=>by simp;omega) (fun g hg=>by simp;omega) w4.heap.size (by simp) (by simp;omega) _
  ·exact (hps4.four hlt _ _ _ _).alloc _
  ·exact only_alloc (grow_four hg4 (Nat.le_refl _) _ _ _ _) _
 | none=>
  rw [if_neg (by simp)] at HA
  have HBI:=LH (fun (W:World) (h1:PSt W b s)=>show Calls Tryz.prog 216 #[.pointer (some ⟨b,0,none⟩),.int .i64 4] W (PPost b W (pP f 4 s)) from h4 s W h1 hl hop)
  clear h3 h4
  generalize pP (f+1) 3 s=res at *
  generalize pP f 4 s=wi at *
  go_enter Tryz.func242, Tryz.ntmps242
  go_wp2_with fail
  refine (at_any s 1 [sNOT] b (w.heap.size+1) 1 _ ((HP.out.alloc _).alloc _) hlen rfl (by simp) (by have:=strs_new (w.alloc (.cells #[.string ⟨#[]⟩,.int .u16 0,.string ⟨#[]⟩,.slice none 0 0] 70)) [sNOT] 9;rwa [show (w.alloc (.cells #[.string ⟨#[]⟩,.int .u16 0,.string ⟨#[]⟩,.slice none 0 0] 70)).heap.size=w.heap.size+1 by simp] at this)).mono ?_
  rintro e w1 ⟨rfl,hw1⟩
  rw [HX.out]
  have hps1:PSt w1 b s:=by rw [← hw1];exact (HP.out.alloc _).alloc _
  have hg1:w.grownBy w1 (some b):=by rw [← hw1];exact only_alloc (only_alloc (grow_refl _ _) _) _
  have hsz1:w.heap.size+2=w1.heap.size:=by rw [← hw1];simp
  have hh1:w1.heap[w.heap.size]? = some (.cells #[.string ⟨#[]⟩,.int .u16 0,.string ⟨#[]⟩,.slice none 0 0] 70 (0,0)):=by
   rw [← hw1,hao _ _ _ (by simp)];exact heap_last rfl _
  clear hw1
  simp only [atV]
  go_wp2_with fail
  refine (HBI.out w1 hps1).mono ?_
  rintro e w4 ⟨vs,rfl,hsub,hok,hps4,hgr4⟩
  obtain ⟨sA,sc,rfl,hsc,hsm⟩:=hsub.form
  have hg4:w.grownBy w4 (some b):=grow_trans hg1 hgr4
  have hh4:=(hgr4.block w.heap.size (by omega) (by simp;omega)).trans hh1
  have hsz4:=hgr4.size
  obtain ⟨⟨k0,k1,k2,k3⟩,g0,g1,g2,g3⟩:=four hh4
  have HSUB:=LH hsub
  clear hsub hgr4 hh4 hh1 HBI
  go_wp2_with fail
  rw [HA.out]
  refine bodyPost_ret (v:=.agg #[.string ⟨wi.1.op.toArray⟩,.int .u16 wi.1.n,.string ⟨wi.1.name.toArray⟩,.slice sA wi.1.sub.length sc]) (by simp [results,Tryz.results242,go_sem,k0,k1,k2,k3]) rfl ⟨_,rfl,?_,hok,?_,?_⟩
  ·exact HSUB.out.four (k:=w.heap.size) (by omega) (fun g hg=>by simp;omega) _ _ _ _
  ·exact hps4.four hlt _ _ _ _
  ·exact grow_four hg4 (Nat.le_refl _) _ _ _ _
theorem unary6_any (f b L:Nat) (h3:∀ L',L'<L->BinH (f+1) 6 b L') (h1:∀ L',L'<L->BinH f 1 b L') (s:PS) (w:World) (hp:PSt w b s) (hl:s.ts.length<=L) (hL:L<=100000) (hop:s.op<=48) :
  Calls Tryz.prog 242 #[.pointer (some ⟨b,0,none⟩),.int .i64 6] w (PPost b w (pP (f+1+1) 6 s)):=by
 have hlt:=hp.lt
 have HP:=LH hp
 have hlen:s.ts.length<=1000000:=by omega
 clear hp
 obtain ⟨x,hx⟩:∃ x,atT s.ts 4 [[45]]=x:=⟨_,rfl⟩
 have HX:=LH hx
 have HA:Hid (pP (f+1+1) 6 s=if x.isSome then (.mk sNEG 0 [] [(wIn (pP (f+1) 6) s.skip).1],(wIn (pP (f+1) 6) s.skip).2) else pP (f+1) 7 s):=LH (by rw [pP_succ];simp [hx])
 clear hx
 cases x with
 | some o=>
  rw [if_pos (by simp)] at HA
  obtain ⟨u,q,huq⟩:∃ u q,s.ts=u :: q:=by
   cases h:s.ts with
   | nil=>have:=HX.out;rw [h] at this;simp [atT] at this
   | cons u q=>exact ⟨u,q,rfl⟩
  have hL1:1<=s.ts.length:=by rw [huq];simp
  have hl4:s.skip.ts.length<=L - 1:=by simp [PS.skip];omega
  have hop2:s.skip.op<=48:=hop
  have HUQ:=LH huq
  clear huq
  have hWI:∀ W,PSt W b s.skip->Calls Tryz.prog 265 #[.pointer (some ⟨b,0,none⟩),.int .i64 6] W (PPost b W (wIn (pP (f+1) 6) s.skip)):=fun W h1=>within_any (f+1) 6 b (L - 1) (h3 (L - 1) (by omega)) s.skip W h1 hl4 hop2
  have HWI:=LH hWI
  clear hWI h3 h1
  generalize pP (f+1+1) 6 s=res at *
  generalize wIn (pP (f+1) 6) s.skip=wi at *
  go_enter Tryz.func242, Tryz.ntmps242
  go_wp2_with fail
  refine (at_any s 4 [[45]] b (w.heap.size+1) 1 _ ((HP.out.alloc _).alloc _) hlen rfl (by simp) (by have:=strs_new (w.alloc (.cells #[.string ⟨#[]⟩,.int .u16 0,.string ⟨#[]⟩,.slice none 0 0] 70)) [[45]] 9;rwa [show (w.alloc (.cells #[.string ⟨#[]⟩,.int .u16 0,.string ⟨#[]⟩,.slice none 0 0] 70)).heap.size=w.heap.size+1 by simp] at this)).mono ?_
  rintro e w1 ⟨rfl,hw1⟩
  rw [HX.out]
  have hps1:PSt w1 b s:=by rw [← hw1];exact (HP.out.alloc _).alloc _
  have hg1:w.grownBy w1 (some b):=by rw [← hw1];exact only_alloc (only_alloc (grow_refl _ _) _) _
  have hsz1:w.heap.size+2=w1.heap.size:=by rw [← hw1];simp
  have hh1:w1.heap[w.heap.size]? = some (.cells #[.string ⟨#[]⟩,.int .u16 0,.string ⟨#[]⟩,.slice none 0 0] 70 (0,0)):=by
   rw [← hw1,hao _ _ _ (by simp)];exact heap_last rfl _
  clear hw1
  simp only [atV]
  go_wp2_with fail
  refine (skip_any s u q b _ hps1 HUQ.out hlen).mono ?_
  rintro e w2 ⟨rfl,hps2,hgr2⟩
  have hg2:w.grownBy w2 (some b):=grow_trans hg1 hgr2
  have hh2:=(hgr2.block w.heap.size (by omega) (by simp;omega)).trans hh1
  have hsz2:=hgr2.size
  clear hgr2 hh1 hg1 hps1
  go_wp2_with fail
  refine (HWI.out _ hps2).mono ?_
  rintro e w4 ⟨vs,rfl,hsub,hok,hps4,hgr4⟩
  obtain ⟨sA,sc,rfl,hsc,hsm⟩:=hsub.form
  have hg4:w.grownBy w4 (some b):=grow_trans hg2 hgr4
  have hh4:=(hgr4.block w.heap.size (by omega) (by simp;omega)).trans hh2
  have hsz4:=hgr4.size
  obtain ⟨⟨k0,k1,k2,k3⟩,g0,g1,g2,g3⟩:=four hh4
  have hH:w.heap.size<w4.heap.size:=by omega
  have HSUB:=LH hsub
  have HOK:=LH hok
  clear hsub hok hgr4 hh4 hh2 hps2 HWI
  go_wp2_with fail
  rw [HA.out]
  refine bodyPost_ret (v:=.agg #[.string ⟨(sNEG:List UInt8).toArray⟩,.int .u16 0,.string ⟨#[]⟩,.slice (some ⟨w4.heap.size,0,none⟩) 1 1]) (by simp [results,Tryz.results242,go_sem,k0,k1,k2,k3,hH]) rfl ⟨_,rfl,?_,ok_mk (by omega) (by simp) (by simp),?_,?_⟩
  ·exact SubAt.one (HSUB.out.four (k:=w.heap.size) (S':=fun g=>w2.heap.size<=g/\g<w4.heap.size) (by omega) (fun g hg=>hg) _ _ _ _) HOK.out (fun g hg=>by simp;omega) (fun g hg=>by simp;omega) w4.heap.size (by simp) (by simp;omega) _
  ·exact (hps4.four hlt _ _ _ _).alloc _
  ·exact only_alloc (grow_four hg4 (Nat.le_refl _) _ _ _ _) _
 | none=>
  rw [if_neg (by simp)] at HA
  have HBI:=LH (fun (W:World) (h0:PSt W b s)=>show Calls Tryz.prog 266 #[.pointer (some ⟨b,0,none⟩)] W (PPost b W (pP (f+1) 7 s)) from by rw [pP_succ,if_neg (by omega),if_neg (by omega),if_pos rfl];exact atom_any f b L h1 s W h0 hl hL hop)
  clear h3 h1
  generalize pP (f+1+1) 6 s=res at *
  generalize pP (f+1) 7 s=wi at *
  go_enter Tryz.func242, Tryz.ntmps242
  go_wp2_with fail
  refine (at_any s 4 [[45]] b (w.heap.size+1) 1 _ ((HP.out.alloc _).alloc _) hlen rfl (by simp) (by have:=strs_new (w.alloc (.cells #[.string ⟨#[]⟩,.int .u16 0,.string ⟨#[]⟩,.slice none 0 0] 70)) [[45]] 9;rwa [show (w.alloc (.cells #[.string ⟨#[]⟩,.int .u16 0,.string ⟨#[]⟩,.slice none 0 0] 70)).heap.size=w.heap.size+1 by simp] at this)).mono ?_
  rintro e w1 ⟨rfl,hw1⟩
  rw [HX.out]
  have hps1:PSt w1 b s:=by rw [← hw1];exact (HP.out.alloc _).alloc _
  have hg1:w.grownBy w1 (some b):=by rw [← hw1];exact only_alloc (only_alloc (grow_refl _ _) _) _
  have hsz1:w.heap.size+2=w1.heap.size:=by rw [← hw1];simp
  have hh1:w1.heap[w.heap.size]? = some (.cells #[.string ⟨#[]⟩,.int .u16 0,.string ⟨#[]⟩,.slice none 0 0] 70 (0,0)):=by
   rw [← hw1,hao _ _ _ (by simp)];exact heap_last rfl _
  clear hw1
  simp only [atV]
  go_wp2_with fail
  refine (HBI.out w1 hps1).mono ?_
  rintro e w4 ⟨vs,rfl,hsub,hok,hps4,hgr4⟩
  obtain ⟨sA,sc,rfl,hsc,hsm⟩:=hsub.form
  have hg4:w.grownBy w4 (some b):=grow_trans hg1 hgr4
  have hh4:=(hgr4.block w.heap.size (by omega) (by simp;omega)).trans hh1
  have hsz4:=hgr4.size
  obtain ⟨⟨k0,k1,k2,k3⟩,g0,g1,g2,g3⟩:=four hh4
  have HSUB:=LH hsub
  clear hsub hgr4 hh4 hh1 HBI
  go_wp2_with fail
  rw [HA.out]
  refine bodyPost_ret (v:=.agg #[.string ⟨wi.1.op.toArray⟩,.int .u16 wi.1.n,.string ⟨wi.1.name.toArray⟩,.slice sA wi.1.sub.length sc]) (by simp [results,Tryz.results242,go_sem,k0,k1,k2,k3]) rfl ⟨_,rfl,?_,hok,?_,?_⟩
  ·exact HSUB.out.four (k:=w.heap.size) (by omega) (fun g hg=>by simp;omega) _ _ _ _
  ·exact hps4.four hlt _ _ _ _
  ·exact grow_four hg4 (Nat.le_refl _) _ _ _ _
theorem PSt.drew {w:World} {b:Nat} {s:PS} (h:PSt w b s):PSt w.drew b s:=h.keep rfl (fun _ _=>rfl)
def BRel (r b L g:Nat) (w:World) (h be:Nat) (s:PS) (res:Ex × PS) (wr:World):Prop:=
 ∃ (f':Nat) (e:Ex) (vs:Value) (s':PS),lP f' r e s'=res/\8 * s'.ts.length+(7 - r)<=f'/\f'<=g/\wr.heap[be]? = some (.cells #[.string ⟨e.op.toArray⟩,.int .u16 e.n,.string ⟨e.name.toArray⟩,vs] 70 (0,0)) /\
  SubAt wr (fun x=>w.heap.size<x/\x<wr.heap.size/\x≠be) vs e.sub/\okE e/\PSt wr b s'/\w.grownBy wr (some b)/\wr.heap[h]? = some (.cells #[.string ⟨#[]⟩,.int .u16 0,.string ⟨#[]⟩,.slice none 0 0] 70 (0,0))/\s'.ts.length<=L/\(s'.k=0->s'.op=s.op)
theorem atT_some {ts:List Tok} {k:Int} {ls:List (List UInt8)} {o:List UInt8} (h:atT ts k ls=some o):(∃ u q,ts=u :: q)/\o∈ls:=by
 cases ts with
 | nil=>simp [atT] at h
 | cons u q=>
  rw [atT_cons] at h
  split at h
  ·rename_i hc
   injection h with h
   exact ⟨⟨u,q,rfl⟩,h ▸ hc.2⟩
  ·cases h
theorem operT_some {r:Nat} {ts:List Tok} {o:List UInt8} (h:operT r ts=some o):(∃ u q,ts=u :: q)/\o.length<=3:=by
 unfold operT at h
 split at h
 ·have:=atT_some h;exact ⟨this.1,by have:=this.2;simp at this;rcases this with rfl | rfl <;> decide⟩
 ·split at h
  ·have:=atT_some h;exact ⟨this.1,by have:=this.2;simp at this;rcases this with rfl <;> decide⟩
  ·split at h
   ·have:=atT_some h;exact ⟨this.1,by have:=this.2;simp at this;rcases this with rfl | rfl <;> decide⟩
   ·split at h
    ·rename_i hx
     injection h with h
     subst h
     have:=atT_some hx;exact ⟨this.1,by have:=this.2;simp at this;rcases this with rfl | rfl <;> decide⟩
    ·have:=atT_some h;exact ⟨this.1,by have:=this.2;simp at this;rcases this with rfl | rfl | rfl <;> decide⟩
def leftOf (b:Nat) (w:World):Nat:=match w.cell? ⟨b,0,none⟩ with | some (.slice _ n _)=>n | _=>0
theorem PSt.left {w:World} {b:Nat} {s:PS} (h:PSt w b s):leftOf b w=s.ts.length:=by
 obtain ⟨A,c,p0,_⟩:=h.cells
 unfold leftOf
 rw [p0]
theorem set4 {w:World} {h:Nat} {c0 c1 c2 c3:Value} {T:TypeId} (hh:w.heap[h]? = some (.cells #[c0,c1,c2,c3] T (0,0))) (u0 u1 u2 u3:Value) :
  ((((w.setCell ⟨h,0,none⟩ u0).setCell ⟨h,1,none⟩ u1).setCell ⟨h,2,none⟩ u2).setCell ⟨h,3,none⟩ u3).heap[h]? = some (.cells #[u0,u1,u2,u3] T (0,0)):=heap_set _ (heap_set _ (heap_set _ (heap_set _ hh)))
theorem four_other (w:World) (h i:Nat) (hne:i≠h) (u0 u1 u2 u3:Value) :
  ((((w.setCell ⟨h,0,none⟩ u0).setCell ⟨h,1,none⟩ u1).setCell ⟨h,2,none⟩ u2).setCell ⟨h,3,none⟩ u3).heap[i]? = w.heap[i]?:=by
 rw [Below.heap_setCell _ _ _ i hne,Below.heap_setCell _ _ _ i hne,Below.heap_setCell _ _ _ i hne,Below.heap_setCell _ _ _ i hne]
theorem binary_step (g r b L:Nat) (hr:binR r) (hL:L<=100000) (hf:8 * L+(8 - r)<=g+1) (h1:BinH g (r+1) b L) (h2:∀ f' L',f'<g->8 * L'+(7 - r)<=f'->L'<=L->BinH f' (r+1) b L'):BinH (g+1) r b L:=by
 intro s w hp hl hop
 have hlt:=hp.lt
 have HP:=LH hp
 clear hp
 have HA:Hid (pP (g+1) r s=lP g r (pP g (r+1) s).1 (pP g (r+1) s).2):=LH (by rw [pP_succ,if_neg (by unfold binR at hr;omega),if_neg (by unfold binR at hr;omega),if_neg (by unfold binR at hr;omega)])
 have hinv:=(pP_inv g).1 (r+1) s
 have hopI:=hinv.2.1 hop
 have hlenI:=hinv.1
 have hc1:=h1 s
 generalize pP (g+1) r s=res at *
 generalize pP g (r+1) s=r1 at *
 have r3:((r:Int) == 3)=false:=by unfold binR at hr;rw [beq_eq_false_iff_ne];omega
 have r6:((r:Int) == 6)=false:=by unfold binR at hr;rw [beq_eq_false_iff_ne];omega
 have rlt:(r:Int)<=5:=by unfold binR at hr;omega
 have rge:(1:Int)<=(r:Int):=by unfold binR at hr;omega
 have HC1:Hid (∀ W,PSt W b s->Calls Tryz.prog 216 #[.pointer (some ⟨b,0,none⟩),.int .i64 ((r:Int)+1)] W (PPost b W r1)):=LH (fun W hW=>hc1 W hW hl hop)
 have HR:=LH hr
 clear hc1 h1 hinv hr
 go_enter Tryz.func216, Tryz.ntmps216
 go_wp2_with fail
 refine (HC1.out _ (HP.out.alloc _)).mono ?_
 rintro e w2 ⟨vs,rfl,hsub,hok,hps2,hgr2⟩
 obtain ⟨sA,sc,rfl,hsc,hsm⟩:=hsub.form
 have hg2:w.grownBy w2 (some b):=grow_trans (only_alloc (grow_refl _ _) _) hgr2
 have hh2:w2.heap[w.heap.size]? = some (.cells #[.string ⟨#[]⟩,.int .u16 0,.string ⟨#[]⟩,.slice none 0 0] 70 (0,0)):=(hgr2.block w.heap.size (by simp) (by simp;omega)).trans (heap_last rfl _)
 have hsz2:w.heap.size+1<=w2.heap.size:=by have:=hgr2.size;simpa using this
 have HREL:Hid (BRel r b L g w w.heap.size w2.heap.size s res (w2.alloc (.cells #[.string ⟨r1.1.op.toArray⟩,.int .u16 r1.1.n,.string ⟨r1.1.name.toArray⟩,.slice sA r1.1.sub.length sc] 70))):=LH
  ⟨g,r1.1,_,r1.2,HA.out.symm,by have:=HR.out;unfold binR at this;omega,Nat.le_refl _,heap_last rfl _,hsub.alloc' _ (fun x hx=>hx.2) (fun x hx=>by simp at hx ⊢;omega),hok,hps2.alloc _,only_alloc hg2 _,(hao _ _ _ (by omega)).trans hh2,by omega,hopI.2.2⟩
 clear hsub hok hps2 hgr2 hg2 hh2 HC1 HA
 have hH:w.heap.size<w2.heap.size:=by omega
 go_wp2_with fail
 go_loopw [6] (fun _ wr=>BRel r b L g w w.heap.size w2.heap.size s res wr) (fun _ wr=>leftOf b wr)
 case atStart=>exact HREL.out
 case round=>
  clear HREL
  obtain ⟨f',e,vs,s',hlp,hf1,hf2,hbe,hsub,hok,hps,hgr,hh,hlen,hopr⟩:=hrel
  obtain ⟨vA,vc,rfl,hvc,hvm⟩:=hsub.form
  have hltb:w2.heap.size<wr.heap.size:=loh hbe
  by_cases hk:s'.k=0
  ·obtain ⟨x,hx⟩:∃ x,operT r s'.ts=x:=⟨_,rfl⟩
   have HX:=LH hx
   obtain ⟨A,c,p0,p1,p2,f0,f1,f2,hc2,hrd⟩:=hps.cells
   rw [hk] at p1
   have HOP:=LH (oper_any s' r HR.out b wr hps (by omega))
   rw [hx] at HOP
   have hleft:leftOf b wr=s'.ts.length:=by unfold leftOf;rw [p0]
   have HLEFT:=LH hleft
   clear p0 p2 f0 f1 f2 hrd hc2 hx hleft
   have HPS0:=LH hps
   have HSUB0:=LH hsub
   have HBE0:=LH hbe
   have HH0:=LH hh
   have HLP:=LH hlp
   clear hps hsub hbe hh hlp
   go_wp2_with fail
   refine HOP.out.mono ?_
   rintro e0 w3 ⟨rfl,hb3⟩
   have hsz3:=hb3.size
   have hbe:=(hb3.block w2.heap.size hltb).trans HBE0.out
   have hh:=(hb3.block w.heap.size (by omega)).trans HH0.out
   have HPS:=LH (HPS0.out.below hb3)
   have HSUB:=LH (HSUB0.out.keep (S':=fun x=>w.heap.size<x/\x<w3.heap.size/\x≠w2.heap.size) (fun p hp=>hb3.cell (by omega)) (fun x hx=>by omega))
   replace hgr:=grow_trans hgr (only_of_below hb3 (some b))
   clear HPS0 HSUB0 HBE0 HH0 HOP hb3
   cases x with
   | none=>
    have HRES:Hid (res=(e,s')):=LH (HLP.out.symm.trans (lP_none _ _ _ _ (.inr HX.out)))
    obtain ⟨⟨j0,j1,j2,j3⟩,_⟩:=four hbe
    obtain ⟨⟨k0,k1,k2,k3⟩,g0,g1,g2,g3⟩:=four hh
    have hres:=HRES.out
    subst hres
    replace HRES:Hid ((e,s')=(e,s')):=LH rfl
    simp only [atV]
    go_wp2_with fail
    refine bodyPost_ret (v:=.agg #[.string ⟨e.op.toArray⟩,.int .u16 e.n,.string ⟨e.name.toArray⟩,.slice vA e.sub.length vc]) (by simp [results,Tryz.results216,go_sem,k0,k1,k2,k3]) rfl ⟨_,rfl,?_,hok,?_,?_⟩
    ·exact HSUB.out.four (k:=w.heap.size) (by omega) (fun x hx=>by simp;omega) _ _ _ _
    ·exact HPS.out.four hlt _ _ _ _
    ·exact grow_four hgr (Nat.le_refl _) _ _ _ _
   | some o=>
    obtain ⟨⟨u,q,huq⟩,holen⟩:=operT_some HX.out
    have hlen1:1<=s'.ts.length:=by rw [huq];simp
    obtain ⟨f2,hf2'⟩:∃ n,f'=n+1:=⟨f' - 1,by omega⟩
    subst hf2'
    have hsk:s'.skip.ts.length=s'.ts.length - 1:=by simp [PS.skip]
    have HLP2:Hid (lP f2 r (.mk o 0 [] [e,(pP f2 (r+1) s'.skip).1]) (pP f2 (r+1) s'.skip).2=res):=LH (by have:=HLP.out;rw [lP_succ,if_pos hk,HX.out] at this;exact this)
    have hopk:s'.skip.op<=48:=by have:=hopr hk;show s'.op<=48;omega
    have hbn:=h2 f2 (s'.ts.length - 1) (by omega) (by omega) (by omega) s'.skip
    have hinv:=(pP_inv f2).1 (r+1) s'.skip
    have hi1:=hinv.1
    have hi2:=hinv.2.1 hopk
    have hsop:s'.skip.op=s.op:=hopr hk
    generalize pP f2 (r+1) s'.skip=p2 at *
    have HBN:Hid (∀ W,PSt W b s'.skip->Calls Tryz.prog 216 #[.pointer (some ⟨b,0,none⟩),.int .i64 ((r:Int)+1)] W (PPost b W p2)):=LH (fun W hW=>hbn W hW (by omega) hopk)
    have HUQ:=LH huq
    have HHBE:=LH hbe
    have HHH:=LH hh
    clear hinv hbn HLP HX huq hopr hk h2 hbe hh
    simp only [atV]
    go_wp2_with fail
    refine (skip_any s' u q b _ HPS.out HUQ.out (by omega)).mono ?_
    rintro e1 w4 ⟨rfl,hps4,hgr4⟩
    have hsz4:=hgr4.size
    have hbe4:=(hgr4.block w2.heap.size (by omega) (by simp;omega)).trans HHBE.out
    have hh4:=(hgr4.block w.heap.size (by omega) (by simp;omega)).trans HHH.out
    have HBE4:=LH hbe4
    have HH4:=LH hh4
    have HG4:=LH (grow_trans hgr hgr4)
    have HS4:=LH (HSUB.out.grown hgr4 (by omega) (fun x hx=>by omega))
    have HPS4:=LH hps4
    obtain ⟨⟨j0,j1,j2,j3⟩,i0,i1,i2,i3⟩:=four hbe4
    have hltb4:w2.heap.size<w4.heap.size:=by omega
    clear hgr4 hbe4 hh4 hps4 HHBE HHH HSUB HPS hgr
    go_wp2_with fail
    have hwr:IntKind.i64.wrap ((r:Int)+1)=(r:Int)+1:=IntWalk.i64_in _ (by omega)
    go_region_with (go_at_call 216;(with_reducible refine (HBN.out _ ?_).mono ?_);(first | exact HPS4.out | exact HPS4.out.drew | skip);rintro e5 w5 ⟨vs5,rfl,hsub5,hok5,hps5,hgr5⟩;obtain ⟨vA5,vc5,rfl,hvc5,hvm5⟩:=hsub5.form;have hsz5:w4.heap.size<=w5.heap.size:=hgr5.size;have hbe5:w5.heap[w2.heap.size]? = _:=(hgr5.block w2.heap.size (by first | exact hltb4 | (simp;exact hltb4)) (by simp;omega)).trans HBE4.out;obtain ⟨⟨a0,a1,a2,a3⟩,b0,b1,b2,b3⟩:=four hbe5;have hltb5:w2.heap.size<w5.heap.size:=by omega)
    all_goals (
     clear hwr
     have HG5:Hid (w4.grownBy w5 (some b)):=LH ⟨hgr5.os,hgr5.tape,hgr5.output,hgr5.size,hgr5.block⟩
     have HS5:Hid (SubAt w5 (fun x=>w4.heap.size<=x/\x<w5.heap.size) (.slice vA5 p2.1.sub.length vc5) p2.1.sub):=LH hsub5
     have HPS5:=LH hps5
     have HBE5:=LH hbe5
     clear hgr5 hsub5 hps5 hbe5
     have hsz45:=HG5.out.size
     go_wp2_with fail
     go_roundw
     case rel=>
      refine ⟨f2,.mk o 0 [] [e,p2.1],_,p2.2,HLP2.out,by omega,by omega,(hao _ _ _ (by simp;omega)).trans (set4 HBE5.out _ _ _ _),?_,ok_mk (by omega) (by omega) (by simp),(HPS5.out.four (by omega) _ _ _ _).alloc _,only_alloc (grow_four (grow_trans HG4.out HG5.out) (by omega) _ _ _ _) _,(hao _ _ _ (by simp;omega)).trans ((four_other _ _ _ (by omega) _ _ _ _).trans ((HG5.out.block w.heap.size (by omega) (by simp;omega)).trans HH4.out)),by omega,fun h0=>(hi2.2.2 h0).trans hsop⟩
      exact SubAt.two (S:=fun x=>w.heap.size<x/\x<w5.heap.size/\x≠w2.heap.size) ((HS4.out.grown HG5.out (by omega) (fun x hx=>by omega)).four (k:=w2.heap.size) (by omega) (fun x hx=>by omega) _ _ _ _) (HS5.out.four (k:=w2.heap.size) (by omega) (fun x hx=>by omega) _ _ _ _) hok hok5 (fun x hx=>by simp;omega) (fun x hx=>by simp;omega) w5.heap.size (by simp) (by simp;omega) _
     case measure=>
      rw [HLEFT.out,((HPS5.out.four (k:=w2.heap.size) (by omega) _ _ _ _).alloc _).left]
      omega)
  ·have HRES:Hid (res=(e,s')):=LH (hlp.symm.trans (lP_none _ _ _ _ (.inl hk)))
   obtain ⟨A,c,p0,p1,p2,f0,f1,f2,hc2,hrd⟩:=hps.cells
   have hk':((s'.k:Int) == 0)=false:=by rw [beq_eq_false_iff_ne];omega
   obtain ⟨⟨j0,j1,j2,j3⟩,_⟩:=four hbe
   obtain ⟨⟨k0,k1,k2,k3⟩,g0,g1,g2,g3⟩:=four hh
   have HPS:=LH hps
   have HSUB:=LH hsub
   clear p0 p2 f0 f1 f2 hrd hc2 hps hsub hbe hh hlp hk
   have hres:=HRES.out
   subst hres
   clear HRES
   go_wp2_with fail
   refine bodyPost_ret (v:=.agg #[.string ⟨e.op.toArray⟩,.int .u16 e.n,.string ⟨e.name.toArray⟩,.slice vA e.sub.length vc]) (by simp [results,Tryz.results216,go_sem,k0,k1,k2,k3]) rfl ⟨_,rfl,?_,hok,?_,?_⟩
   ·exact HSUB.out.four (k:=w.heap.size) (by omega) (fun x hx=>by simp;omega) _ _ _ _
   ·exact HPS.out.four hlt _ _ _ _
   ·exact grow_four hgr (Nat.le_refl _) _ _ _ _
theorem binary_un (f r b L:Nat) (hr:r=3∨r=6) (hu:∀ s w,PSt w b s->s.ts.length<=L->s.op<=48->Calls Tryz.prog 242 #[.pointer (some ⟨b,0,none⟩),.int .i64 r] w (PPost b w (pP f r s))):BinH f r b L:=by
 intro s w hp hl hop
 have hlt:=hp.lt
 have HP:=LH hp
 have HU:=LH (fun W hW=>hu s W hW hl hop)
 clear hp hu
 generalize pP f r s=res at *
 rcases hr with rfl | rfl
 all_goals (
  go_enter Tryz.func216, Tryz.ntmps216
  go_wp2_with fail
  refine (HU.out _ (HP.out.alloc _)).mono ?_
  rintro e w2 ⟨vs,rfl,hsub,hok,hps2,hgr2⟩
  obtain ⟨sA,sc,rfl,hsc,hsm⟩:=hsub.form
  have hg2:w.grownBy w2 (some b):=grow_trans (only_alloc (grow_refl _ _) _) hgr2
  have hh2:w2.heap[w.heap.size]? = some (.cells #[.string ⟨#[]⟩,.int .u16 0,.string ⟨#[]⟩,.slice none 0 0] 70 (0,0)):=(hgr2.block w.heap.size (by simp) (by simp;omega)).trans (heap_last rfl _)
  have hsz2:w.heap.size+1<=w2.heap.size:=by have:=hgr2.size;simpa using this
  obtain ⟨⟨k0,k1,k2,k3⟩,g0,g1,g2,g3⟩:=four hh2
  have HSUB:=LH hsub
  clear hsub hgr2 hh2 HU
  go_wp2_with fail
  refine bodyPost_ret (v:=.agg #[.string ⟨res.1.op.toArray⟩,.int .u16 res.1.n,.string ⟨res.1.name.toArray⟩,.slice sA res.1.sub.length sc]) (by simp [results,Tryz.results216,go_sem,k0,k1,k2,k3]) rfl ⟨_,rfl,?_,hok,?_,?_⟩
  ·exact (HSUB.out.more (S':=fun g=>w.heap.size+1<=g/\g<w2.heap.size) (fun g hg=>by simpa using hg)).four (k:=w.heap.size) (by omega) (fun g hg=>by simp;omega) _ _ _ _
  ·exact hps2.four hlt _ _ _ _
  ·exact grow_four hg2 (Nat.le_refl _) _ _ _ _)
theorem bin_all (b:Nat):∀ f r L,1<=r->r<=6->L<=100000->8 * L+(8 - r)<=f->BinH f r b L:=by
 intro f
 induction f using Nat.strongRecOn with
 | _ f ih=>
  intro r L h1 h6 hL hf
  obtain ⟨g,rfl⟩:∃ g,f=g+1:=⟨f - 1,by omega⟩
  by_cases h3:r=3
  ·subst h3
   exact binary_un (g+1) 3 b L (.inl rfl) (fun s w hp hl hop=>unary3_any g b L (fun L' hL'=>ih g (by omega) 3 L' (by omega) (by omega) (by omega) (by omega)) (ih g (by omega) 4 L (by omega) (by omega) hL (by omega)) s w hp hl hL hop)
  by_cases h6':r=6
  ·subst h6'
   obtain ⟨g',rfl⟩:∃ g',g=g'+1:=⟨g - 1,by omega⟩
   exact binary_un (g'+1+1) 6 b L (.inr rfl) (fun s w hp hl hop=>unary6_any g' b L (fun L' hL'=>ih (g'+1) (by omega) 6 L' (by omega) (by omega) (by omega) (by omega)) (fun L' hL'=>ih g' (by omega) 1 L' (by omega) (by omega) (by omega) (by omega)) s w hp hl hL hop)
  have hb:binR r:=by unfold binR;omega
  exact binary_step g r b L hb hL hf (ih g (by omega) (r+1) L (by omega) (by unfold binR at hb;omega) hL (by omega)) (fun f' L' hf' hl' hL'=>ih f' (by omega) (r+1) L' (by omega) (by unfold binR at hb;omega) (by omega) (by omega))
theorem deepL_take (s:List Ex) (k:Nat) (hk:k<s.length):deepL (s.take (k+1))=max (deepL (s.take k)) (deepE s[k]):=by
 induction s generalizing k with
 | nil=>simp at hk
 | cons e s ih=>
  cases k with
  | zero=>simp [deepL]
  | succ k=>
   have:=ih k (by simpa using hk)
   simp only [List.take_succ_cons,deepL,this,List.getElem_cons_succ]
   omega
theorem deepL_le (s:List Ex) (k:Nat):deepL (s.take k)<=deepL s:=by
 induction s generalizing k with
 | nil=>simp [deepL]
 | cons e s ih=>
  cases k with
  | zero=>simp [deepL]
  | succ k=>have:=ih k;simp only [List.take_succ_cons,deepL];omega
theorem deepE_mem (s:List Ex) (e:Ex) (h:e∈s):deepE e<=deepL s:=by
 induction s with
 | nil=>simp at h
 | cons a s ih=>
  simp only [deepL]
  rcases List.mem_cons.1 h with rfl | h
  ·omega
  ·have:=ih h;omega
theorem max_nat (a b:Nat):max (a:Int) (b:Int)=((max a b:Nat):Int):=by omega
theorem deep_any (e:Ex):∀ (v:Value) (w:World),SubAt w (· < w.heap.size) v e.sub->deepE e<=1000000000 ->
  Calls Tryz.prog 217 #[.agg #[.string ⟨e.op.toArray⟩,.int .u16 e.n,.string ⟨e.name.toArray⟩,v]] w fun r w'=>r=.returned (.int .i64 (deepE e))/\Below w.heap.size w w':=by
 induction e using Ex.ind with
 | h o n m s ih=>
  intro v w hs hd
  have hdl:deepL s+1<=1000000000:=by simpa [deepE] using hd
  have HD:Hid (deepE (.mk o n m s)=deepL s+1):=LH (by simp [deepE])
  have IH:=LH ih
  dsimp only [Ex.op,Ex.n,Ex.name,Ex.sub] at hs ⊢
  obtain ⟨A,c,rfl,hc,hm⟩:=hs.form
  unfold maxLen at hm
  have HS:=LH hs
  clear hs ih hd
  generalize deepE (.mk o n m s)=de at *
  go_enter Tryz.func217, Tryz.ntmps217
  go_wp2_with fail
  go_loopw [2,8] (fun d i wr=>∃ k:Nat,k<=s.length/\i=.int .i64 k/\d=.int .i64 (deepL (s.take k))/\Below w.heap.size w wr) (fun _ i _=>s.length - (intOf i).toNat)
  case atStart=>exact ⟨0,Nat.zero_le _,rfl,rfl,(Below.refl _ _).alloc (Nat.le_refl _) _⟩
  case round=>
   obtain ⟨k,hk,rfl,rfl,hb⟩:=hrel
   have hsz:=hb.size
   have hle:=deepL_le s k
   by_cases hlt:k<s.length
   ·obtain ⟨g,q,vk,rfl,hg,c0,c1,c2,c3,hsub,hn,_,_⟩:=HS.out.get k hlt
    obtain ⟨vA,vc,rfl,_,_⟩:=hsub.form
    have d0:=(hb.cell (p:=⟨g,q+k * 4,none⟩) hg).trans c0
    have d1:=(hb.cell (p:=⟨g,q+k * 4+1,none⟩) hg).trans c1
    have d2:=(hb.cell (p:=⟨g,q+k * 4+2,none⟩) hg).trans c2
    have d3:=(hb.cell (p:=⟨g,q+k * 4+3,none⟩) hg).trans c3
    have hsk:=(hsub.bel hb).more (S':=(· < wr.heap.size)) (fun x hx=>Nat.lt_of_lt_of_le hx hsz)
    have hdk:=deepE_mem s s[k] (List.getElem_mem hlt)
    have HT:=LH (deepL_take s k hlt)
    have HI:=LH (fun (W:World) (hW:SubAt W (· < W.heap.size) (.slice vA s[k].sub.length vc) s[k].sub)=>IH.out s[k] (List.getElem_mem hlt) (.slice vA s[k].sub.length vc) W hW (by omega))
    have hmx:=max_nat (deepL (s.take k)) (deepE s[k])
    generalize s[k]=ek at *
    generalize deepL (s.take k)=dk at *
    have HSK:=LH hsk
    clear c0 c1 c2 c3 hsub hsk
    go_wp2_with fail
    refine (HI.out _ ((HSK.out.keep (fun p hp=>World.cell?_alloc_lt _ _ _ hp) (fun _ h=>h)).more (fun x hx=>by simp;omega))).mono ?_
    rintro e0 w5 ⟨rfl,hb5⟩
    have hb6:Below w.heap.size w w5:=(hb.alloc hsz _).trans (hb5.mono (by simp;omega))
    generalize deepE ek=dek at *
    go_wp2_with fail
    go_roundw
    case rel=>exact ⟨k+1,by omega,by go_num,by rw [HT.out,← hmx],hb6⟩
    case measure=>simp [intOf];omega
   ·obtain rfl:k=s.length:=by omega
    rw [List.take_length] at hle ⊢
    go_wp2_with fail
    go_ret
    rw [HD.out]
    exact ⟨by rw [Int.natCast_add];rfl,hb⟩
theorem pP_deep:∀ f,(∀ r s,deepE (pP f r s).1<=f * f+1)/\(∀ r e s,deepE (lP f r e s).1<=max (deepE e) (f * f+1)+f):=by
 intro f
 induction f with
 | zero=>exact ⟨fun r s=>by simp [pP,ex0,deepE,deepL],fun r e s=>by simp [lP];omega⟩
 | succ f ih=>
  have hsq:(f+1) * (f+1)=f * f+2 * f+1:=by rw [Nat.mul_add,Nat.add_mul];omega
  have h1:∀ e:Ex,∀ o,deepE (.mk o 0 [] [e])=deepE e+1:=fun e o=>by simp [deepE,deepL]
  have hw:∀ r s,deepE (wIn (pP f r) s).1<=f * f+1:=by
   intro r s
   unfold wIn
   dsimp only
   split
   ·simp [ex0,deepE,deepL]
   ·exact ih.1 r _
  have hx0:deepE ex0=1:=by simp [ex0,deepE,deepL]
  have hm0:∀ o n m,deepE (.mk o n m [])=1:=fun o n m=>by simp [deepE,deepL]
  refine ⟨fun r s=>?_,fun r e s=>?_⟩
  ·rw [pP_succ]
   split
   ·split
    ·show deepE (.mk sNOT 0 [] [(wIn (pP f 3) s.skip).1])<=_
     rw [h1];have:=hw 3 s.skip;cases f <;> omega
    ·have:=ih.1 4 s;omega
   ·split
    ·split
     ·show deepE (.mk sNEG 0 [] [(wIn (pP f 6) s.skip).1])<=_
      rw [h1];have:=hw 6 s.skip;cases f <;> omega
     ·have:=ih.1 7 s;omega
    ·split
     ·unfold atomP
      have:=hw 1 s.skip
      split
      ·show deepE ex0<=_;omega
      ·split
       ·split
        ·show deepE ex0<=_;omega
        ·show deepE (.mk _ _ _ [])<=_;rw [hm0];omega
       ·split
        ·show deepE (.mk _ _ _ [])<=_;rw [hm0];omega
        ·split
         ·split
          ·show deepE (.mk _ _ _ [])<=_;rw [hm0];omega
          ·show deepE ex0<=_;omega
         ·split
          ·split
           ·show deepE (.mk _ _ _ [])<=_;rw [hm0];omega
           ·split
            ·dsimp only
             split
             ·show deepE (wIn (pP f 1) s.skip).1<=_;omega
             ·show deepE ex0<=_;omega
            ·show deepE ex0<=_;omega
          ·show deepE ex0<=_;omega
     ·have a:=ih.1 (r+1) s
      have c:=ih.2 r (pP f (r+1) s).1 (pP f (r+1) s).2
      omega
  ·rw [lP_succ]
   split
   ·split
    ·show deepE e<=_;omega
    ·rename_i o _
     have a:=ih.1 (r+1) s.skip
     have c:=ih.2 r (.mk o 0 [] [e,(pP f (r+1) s.skip).1]) (pP f (r+1) s.skip).2
     have d:deepE (.mk o 0 [] [e,(pP f (r+1) s.skip).1])=max (deepE e) (deepE (pP f (r+1) s.skip).1)+1:=by simp [deepE,deepL]
     rw [d] at c
     omega
   ·show deepE e<=_;omega
def ParseP (w:World) (res:Ex × Nat × Nat) (e:Ending) (w':World):Prop:=
 ∃ vs,e=.returned (.tuple #[.agg #[.string ⟨res.1.op.toArray⟩,.int .u16 res.1.n,.string ⟨res.1.name.toArray⟩,vs],.int .i64 res.2.1,.int .i64 res.2.2])/\SubAt w' (fun g=>w.heap.size<=g/\g<w'.heap.size) vs res.1.sub/\okE res.1/\Below w.heap.size w w'
theorem below_grown {w w' w0:World} {b:Nat} (h0:Below w.heap.size w w0) (hg:w0.grownBy w' (some b)) (hb:w.heap.size<=b):Below w.heap.size w w':=
 h0.grown hg h0.size (fun g h=>by injection h with h;omega)
theorem parse5_any (ts:List Tok) (v:Value) (w:World) (hr:Rd w w.heap.size v ts.length (tokRow ts)) (hl:ts.length<=1000) (ht:∀ t∈ts,t.2.2<=65535/\t.2.1.length<=1000) :
  Calls Tryz.prog 170 #[v] w (ParseP w (parseE ts)):=by
 obtain ⟨A,c,rfl,hc⟩:=hr.form
 have hp:∀ o1,PSt ((w.alloc o1).alloc (.cells #[.slice A ts.length c,.int .i64 0,.int .i64 0] 304)) (w.heap.size+1) ⟨ts,0,0⟩:=fun o1=>
  ⟨_,heap_last (by simp) _,((hr.keep (fun p hp=>by rw [World.cell?_alloc_lt _ _ _ (by simp;omega),World.cell?_alloc_lt _ _ _ hp])).more (by omega)),ht⟩
 have HP:=LH hp
 have hB:=bin_all (w.heap.size+1) (8 * ts.length+7) 1 ts.length (by omega) (by omega) (by omega) (by omega) ⟨ts,0,0⟩
 have hdp:=(pP_deep (8 * ts.length+7)).1 1 ⟨ts,0,0⟩
 have hdb:(8 * ts.length+7) * (8 * ts.length+7)+1<=1000000000:=by
  have:(8 * ts.length+7) * (8 * ts.length+7)<=8007 * 8007:=Nat.mul_le_mul (by omega) (by omega)
  omega
 have hiv:=((pP_inv (8 * ts.length+7)).1 1 ⟨ts,0,0⟩).1
 have HE:Hid (parseE ts=if (pP (8 * ts.length+7) 1 ⟨ts,0,0⟩).2.k≠0 then (ex0,0,(pP (8 * ts.length+7) 1 ⟨ts,0,0⟩).2.k) else if 24<deepE (pP (8 * ts.length+7) 1 ⟨ts,0,0⟩).1 then (ex0,0,11) else ((pP (8 * ts.length+7) 1 ⟨ts,0,0⟩).1,ts.length - (pP (8 * ts.length+7) 1 ⟨ts,0,0⟩).2.ts.length,0)):=LH rfl
 generalize parseE ts=out at *
 generalize pP (8 * ts.length+7) 1 ⟨ts,0,0⟩=res at *
 obtain ⟨re,rs⟩:=res
 dsimp only at hiv hdp HE
 have hdr:deepE re<=1000000000:=by omega
 have HB:Hid (∀ W,PSt W (w.heap.size+1) ⟨ts,0,0⟩->Calls Tryz.prog 216 #[.pointer (some ⟨w.heap.size+1,0,none⟩),.int .i64 1] W (PPost (w.heap.size+1) W (re,rs))):=LH (fun W hW=>hB W hW (Nat.le_refl _) (by show 0<=48;omega))
 clear hr ht hp hB hdp hdb
 go_enter Tryz.func170, Tryz.ntmps170
 go_wp2_with fail
 refine (HB.out _ (HP.out _)).mono ?_
 rintro e w2 ⟨vs,rfl,hsub,hok,hps2,hgr2⟩
 obtain ⟨sA,sc,rfl,hsc,hsm⟩:=hsub.form
 have hsz2:w.heap.size+2<=w2.heap.size:=by have:=hgr2.size;simpa using this
 have hh2:w2.heap[w.heap.size]? = some (.cells #[.string ⟨#[]⟩,.int .u16 0,.string ⟨#[]⟩,.slice none 0 0] 70 (0,0)):=(hgr2.block w.heap.size (by simp;omega) (by simp)).trans ((hao _ _ _ (by simp)).trans (heap_last rfl _))
 have hbel:Below w.heap.size w w2:=below_grown (((Below.refl _ _).alloc (Nat.le_refl _) _).alloc (by simp) _) hgr2 (by omega)
 have hsub2:=hsub.more (S':=fun g=>w.heap.size+2<=g/\g<w2.heap.size) (fun g hg=>by simpa using hg)
 obtain ⟨pA,pc,p0,p1,p2,f0,f1,f2,hc2,hrd⟩:=hps2.cells
 have hltb:=hps2.lt
 obtain ⟨⟨k0,k1,k2,k3⟩,g0,g1,g2,g3⟩:=four hh2
 have HSUB:=LH hsub2
 have HH2:=LH hh2
 have HPS2:=LH hps2
 dsimp only at *
 clear hsub hsub2 hps2 hgr2 hh2 hrd HB HP p2 f2
 have hH:w.heap.size<w2.heap.size:=by omega
 have hHb:w.heap.size≠w.heap.size+1:=by omega
 by_cases hk:rs.k=0
 ·rw [if_neg (by simp [hk])] at HE
  rw [hk] at p1
  have HD:=LH (deep_any re (.slice sA re.sub.length sc) (w2.alloc (.cells #[.string ⟨re.op.toArray⟩,.int .u16 re.n,.string ⟨re.name.toArray⟩,.slice sA re.sub.length sc] 70)) (HSUB.out.alloc' _ (fun g hg=>hg.2) (fun g hg=>by simp;omega)) hdr)
  generalize deepE re=dp at *
  go_wp2_with fail
  refine HD.out.mono ?_
  rintro e w4 ⟨rfl,hb4⟩
  have hsz4:w2.heap.size+1<=w4.heap.size:=by have:=hb4.size;simpa using this
  obtain ⟨qA,qc,P0,P1,_,_,F1,_,_,_⟩:=((HPS2.out.alloc (.cells #[.string ⟨re.op.toArray⟩,.int .u16 re.n,.string ⟨re.name.toArray⟩,.slice sA re.sub.length sc] 70)).below hb4).cells
  rw [hk] at P1
  have hh4:w4.heap[w.heap.size]? = some (.cells #[.string ⟨#[]⟩,.int .u16 0,.string ⟨#[]⟩,.slice none 0 0] 70 (0,0)):=(hb4.block w.heap.size (by simp;omega)).trans ((hao _ _ _ hH).trans HH2.out)
  have he4:w4.heap[w2.heap.size]? = some (.cells #[.string ⟨re.op.toArray⟩,.int .u16 re.n,.string ⟨re.name.toArray⟩,.slice sA re.sub.length sc] 70 (0,0)):=(hb4.block w2.heap.size (by simp)).trans (heap_last rfl _)
  obtain ⟨⟨K0,K1,K2,K3⟩,G0,G1,G2,G3⟩:=four hh4
  obtain ⟨⟨E0,E1,E2,E3⟩,_⟩:=four he4
  have hbel4:Below w.heap.size w w4:=(hbel.alloc (by omega) _).trans (hb4.mono (by simp;omega))
  have HSUB4:Hid (SubAt w4 (fun g=>w.heap.size+2<=g/\g<w2.heap.size) (.slice sA re.sub.length sc) re.sub):=LH ((HSUB.out.alloc' _ (fun g hg=>hg.2) (fun g hg=>hg)).keep (fun p hp=>hb4.cell (by simp;omega)) (fun _ h=>h))
  have hH4:w.heap.size<w4.heap.size:=by omega
  have hB4:w.heap.size+1<w4.heap.size:=by omega
  clear hb4 hh4 he4 p0 p1 f0 f1 k0 k1 k2 k3 g0 g1 g2 g3 HSUB HD hbel
  by_cases hd:24<dp
  ·rw [if_pos hd] at HE
   have hd':(24:Int)<(dp:Int):=by omega
   go_wp2_with fail
   go_region
   all_goals (
    go_wp2_with fail
    rw [HE.out]
    refine bodyPost_ret (v:=.tuple #[.agg #[.string ⟨#[]⟩,.int .u16 0,.string ⟨#[]⟩,.slice none 0 0],.int .i64 0,.int .i64 11]) (by simp [results,Tryz.results170,go_sem,K0,K1,K2,K3]) rfl ⟨.slice none 0 0,rfl,SubAt.nil _ _,ok0,?_⟩
    exact (((((hbel4.setCell (by simp) _).setCell (Nat.le_refl _) _).setCell (Nat.le_refl _) _).setCell (Nat.le_refl _) _).setCell (Nat.le_refl _) _).drew)
  ·rw [if_neg hd] at HE
   have hd':decide ((24:Int)<(dp:Int))=false:=by simp;omega
   have hd2:decide (24<dp)=false:=by simp;omega
   have hlen1:(rs.ts.length:Int)<=(ts.length:Int):=by omega
   have hlen2:(ts.length:Int)<=1000:=by omega
   go_wp2_with fail
   have hsubl:IntKind.i64.wrap ((ts.length:Int) - (rs.ts.length:Int))=(ts.length:Int) - (rs.ts.length:Int):=IntWalk.i64_in _ (by omega)
   go_region
   all_goals (
    go_wp2_with fail
    rw [HE.out]
    refine bodyPost_ret (v:=.tuple #[.agg #[.string ⟨re.op.toArray⟩,.int .u16 re.n,.string ⟨re.name.toArray⟩,.slice sA re.sub.length sc],.int .i64 ((ts.length - rs.ts.length:Nat):Int),.int .i64 0]) (by simp [results,Tryz.results170,go_sem,K0,K1,K2,K3];omega) rfl ⟨_,rfl,?_,hok,?_⟩
    ·exact (HSUB4.out.four (k:=w.heap.size) (S':=fun g=>w.heap.size<=g/\g<w4.heap.size) (by omega) (fun g hg=>by omega) _ _ _ _).keep (fun _ _=>rfl) (fun g hg=>by simp;omega)
    ·exact ((((hbel4.setCell (Nat.le_refl _) _).setCell (Nat.le_refl _) _).setCell (Nat.le_refl _) _).setCell (Nat.le_refl _) _).drew)
 ·rw [if_pos hk] at HE
  have hk1:((rs.k:Int) == 0)=false:=by rw [beq_eq_false_iff_ne];omega
  go_wp2_with fail
  go_region
  all_goals (
   go_wp2_with fail
   rw [HE.out]
   refine bodyPost_ret (v:=.tuple #[.agg #[.string ⟨#[]⟩,.int .u16 0,.string ⟨#[]⟩,.slice none 0 0],.int .i64 0,.int .i64 rs.k]) (by simp [results,Tryz.results170,go_sem,k0,k1,k2,k3,hH]) rfl ⟨.slice none 0 0,rfl,SubAt.nil _ _,ok0,?_⟩
   exact (((((hbel.setCell (Nat.le_refl _) _).setCell (Nat.le_refl _) _).setCell (Nat.le_refl _) _).setCell (Nat.le_refl _) _).alloc (by simp;omega) _).drew)
def AllP (w:World) (res:Ex × Nat) (e:Ending) (w':World):Prop:=
 ∃ vs,e=.returned (.tuple #[.agg #[.string ⟨res.1.op.toArray⟩,.int .u16 res.1.n,.string ⟨res.1.name.toArray⟩,vs],.int .i64 res.2])/\SubAt w' (fun g=>w.heap.size<=g/\g<w'.heap.size) vs res.1.sub/\okE res.1/\Below w.heap.size w w'
theorem parse_len (ts:List Tok):(parseE ts).2.1<=ts.length:=by
 unfold parseE
 dsimp only
 split
 ·simp
 ·split <;> simp
theorem all_any (ts:List Tok) (v:Value) (w:World) (hr:Rd w w.heap.size v ts.length (tokRow ts)) (hl:ts.length<=1000) (ht:∀ t∈ts,t.2.2<=65535/\t.2.1.length<=1000) :
  Calls Tryz.prog 117 #[v] w (AllP w (allE ts)):=by
 have HP:=LH (fun o=>parse5_any ts v (w.alloc o) ((hr.keep (fun p hp=>World.cell?_alloc_lt _ _ _ hp)).more (by simp)) hl ht)
 obtain ⟨A,c,rfl,hc⟩:=hr.form
 have HE:Hid (allE ts=if (parseE ts).2.2≠0 then (ex0,(parseE ts).2.2) else if (parseE ts).2.1<ts.length then (ex0,2) else ((parseE ts).1,0)):=LH rfl
 have hpl:=parse_len ts
 generalize allE ts=out at *
 generalize parseE ts=res at *
 obtain ⟨re,rn,rk⟩:=res
 dsimp only at HE hpl
 clear hr ht
 go_enter Tryz.func117, Tryz.ntmps117
 go_wp2_with fail
 refine (HP.out _).mono ?_
 rintro e w2 ⟨vs,rfl,hsub,hok,hb2⟩
 obtain ⟨sA,sc,rfl,hsc,hsm⟩:=hsub.form
 have hsz2:w.heap.size+1<=w2.heap.size:=by have:=hb2.size;simpa using this
 have hh2:w2.heap[w.heap.size]? = some (.cells #[.string ⟨#[]⟩,.int .u16 0,.string ⟨#[]⟩,.slice none 0 0] 70 (0,0)):=(hb2.block w.heap.size (by simp)).trans (heap_last rfl _)
 obtain ⟨⟨k0,k1,k2,k3⟩,g0,g1,g2,g3⟩:=four hh2
 have hbel:Below w.heap.size w w2:=((Below.refl _ _).alloc (Nat.le_refl _) _).trans (hb2.mono (by simp))
 have HSUB:Hid (SubAt w2 (fun g=>w.heap.size+1<=g/\g<w2.heap.size) (.slice sA re.sub.length sc) re.sub):=LH (hsub.more (fun g hg=>by simpa using hg))
 have hH:w.heap.size<w2.heap.size:=by omega
 clear hsub hb2 hh2 HP
 dsimp only at *
 by_cases hk:rk=0
 ·subst hk
  rw [if_neg (by simp)] at HE
  by_cases hn:rn<ts.length
  ·rw [if_pos hn] at HE
   have hn':(rn:Int)<(ts.length:Int):=by omega
   go_wp2_with fail
   rw [HE.out]
   refine bodyPost_ret (v:=.tuple #[.agg #[.string ⟨#[]⟩,.int .u16 0,.string ⟨#[]⟩,.slice none 0 0],.int .i64 2]) (by simp [results,Tryz.results117,go_sem,k0,k1,k2,k3,hH]) rfl ⟨.slice none 0 0,rfl,SubAt.nil _ _,ok0,?_⟩
   exact ((((hbel.setCell (Nat.le_refl _) _).setCell (Nat.le_refl _) _).setCell (Nat.le_refl _) _).setCell (Nat.le_refl _) _).alloc (by simp;omega) _
  ·rw [if_neg hn] at HE
   have hn':decide (rn<ts.length)=false:=by simp;omega
   go_wp2_with fail
   rw [HE.out]
   refine bodyPost_ret (v:=.tuple #[.agg #[.string ⟨re.op.toArray⟩,.int .u16 re.n,.string ⟨re.name.toArray⟩,.slice sA re.sub.length sc],.int .i64 0]) (by simp [results,Tryz.results117,go_sem,k0,k1,k2,k3,hH]) rfl ⟨_,rfl,?_,hok,?_⟩
   ·exact (HSUB.out.four (k:=w.heap.size) (S':=fun g=>w.heap.size+1<=g/\g<w2.heap.size) (by omega) (fun g hg=>hg) _ _ _ _).alloc' _ (fun g hg=>by simp;omega) (fun g hg=>by simp;omega)
   ·exact ((((hbel.setCell (Nat.le_refl _) _).setCell (Nat.le_refl _) _).setCell (Nat.le_refl _) _).setCell (Nat.le_refl _) _).alloc (by simp;omega) _
 ·rw [if_pos hk] at HE
  have hk1:((rk:Int) == 0)=false:=by rw [beq_eq_false_iff_ne];omega
  go_wp2_with fail
  rw [HE.out]
  refine bodyPost_ret (v:=.tuple #[.agg #[.string ⟨#[]⟩,.int .u16 0,.string ⟨#[]⟩,.slice none 0 0],.int .i64 rk]) (by simp [results,Tryz.results117,go_sem,k0,k1,k2,k3,hH]) rfl ⟨.slice none 0 0,rfl,SubAt.nil _ _,ok0,?_⟩
  exact ((((hbel.setCell (Nat.le_refl _) _).setCell (Nat.le_refl _) _).setCell (Nat.le_refl _) _).setCell (Nat.le_refl _) _).alloc (by simp;omega) _
end Go.Proofs.YtbdnbfacalfciaaGreatDoor
