/- Xv. -/
import Derived.Test.YtijgppokofganaaGreatDoorXu
import Derived.Test.YtijgppokofganaaGreatDoorRw10
import Derived.Test.YtijgppokofganaaGreatDoorXq
import Derived.Test.YtijgppokofganaaGreatDoorXt
import Derived.Deep.RegionLaw
namespace Go.Proofs.YtijgppokofganaaGreatDoor
open Go.RowKit
def SwI (w:World) (bo:Nat) (s:St) (lab:List UInt8) (A:Option Addr) (c k:Nat) (wr:World):Prop:=
 ∃ (us:List Value) (GA:Option Addr) (gc:Nat),ArRow wr (bo+1) (fun g=>g≠bo) (.slice GA k gc) ((s.args.take k).map fun a=>(renAr a).1) us/\(∀ j (hj:j<s.args.length),j<k->(renAr s.args[j]).2=0) /\
  wr.heap[bo]? = some (.cells #[.string ⟨lab.toArray⟩,.bool s.colon,.string ⟨s.op.toArray⟩,.slice GA k gc] 24 (0,0))/\Below w.heap.size w wr /\
  wr.heap[w.heap.size]? = some (.cells #[.string ⟨s.label.toArray⟩,.bool s.colon,.string ⟨s.op.toArray⟩,.slice A s.args.length c] 24 (0,0))/\wr.heap[w.heap.size+1]? = some (.cells #[.string ⟨#[]⟩,.bool false,.string ⟨#[]⟩,.slice none 0 0] 24 (0,0))
theorem eightc {w:World} {h:Nat} {c0 c1 c2 c3 c4 c5 c6 c7:Value} {T:TypeId} (hh:w.heap[h]? = some (.cells #[c0,c1,c2,c3,c4,c5,c6,c7] T (0,0))) :
  (w.cell? ⟨h,0,none⟩=some c0/\w.cell? ⟨h,1,none⟩=some c1/\w.cell? ⟨h,2,none⟩=some c2/\w.cell? ⟨h,3,none⟩=some c3/\w.cell? ⟨h,4,none⟩=some c4/\w.cell? ⟨h,5,none⟩=some c5/\w.cell? ⟨h,6,none⟩=some c6/\w.cell? ⟨h,7,none⟩=some c7) /\
  (w.frozen? ⟨h,4,none⟩=false/\w.frozen? ⟨h,5,none⟩=false/\w.frozen? ⟨h,6,none⟩=false/\w.frozen? ⟨h,7,none⟩=false):=
 ⟨⟨coh hh,coh hh,coh hh,coh hh,coh hh,coh hh,coh hh,coh hh⟩,foh hh,foh hh,foh hh,foh hh⟩
theorem step_append_sw {P:Program} {ops:Array Oper} {o:Oper} {a:Act} {w:World} {K:Act->World->Prop} {Q:Exit->Act->World->Prop} {E:Prop} (hgd:o.guard=none) (s x:Operand) (t:TypeId)
  (ho:o.op=.call { callee:=.builtin .append,args:=#[s,x],argTypes:=#[t,t] })
  (base:Nat) (e:TypeId) (z:Value) (size bytes:Nat) (ht:P.underlying t=some (.slice e)) (hinfo:(P.info? e).map (fun i=>(i.zero,i.size,i.bytes))=some (some z,size,bytes))
  (hzs:z.cells.size=size) (hsz:0<size) {v:Value} {n:Nat} {xs:List Value} (hown:w.ownsRow base e size v n xs) (hs:a.eval s=v)
  {B:Nat} {y:Value} {m:Nat} {news:List Value} (hr:Rd w B y m news) (hx:a.eval x=y) (hl:news.length=m * size) (h1:∀ u∈news,u.oneCell'=true)
  (hn:n+m<=1000000000) (hby:bytes<=1000) (hbase:base<=w.heap.size)
  (h:∀ v' w',w'.ownsRow base e size v' (n+m) (xs++news)->Below base w w'->w.grownBy w' v.ownBlock->(v'.ownBlock=v.ownBlock∨v'.ownBlock=some w.heap.size)->K (a.put o.dst v') w'):if Region.wanted o (yielded ops a.tmps)=true then Oper.wp P o a w K Q else E:=by
 have hw:Region.wanted o (yielded ops a.tmps)=true:=by simp [Region.wanted,hgd]
 rw [if_pos hw]
 obtain ⟨v',w',hrun,h2,h3,h4⟩:=append_rd (P:=P) w base t o.type e z size bytes ht hinfo hzs hsz v n xs hown B y m news hr hl h1 hn hby hbase
 unfold Oper.wp execOp
 simp only [ho,resolve,invoke,builtin,Sem.run_bind,Sem.run_pure,Result.andThen_ok,List.map_toArray,List.map_cons,List.map_nil,hs,hx,hrun]
 exact h v' w' h2 (below_of_own hown (Below.refl _ _) h3 hbase) h3 h4
theorem cell_alt {w:World} {b:Nat} {c0 c1 c2:Value} {A:Option Addr} {n c:Nat} {T:TypeId} (hb:w.heap[b]? = some (.cells #[c0,c1,c2,.slice A n c] T (0,0))) {g i:Nat} {bs:ByteArray} (h:w.cell? ⟨g,i,none⟩=some (.string bs)) (u:Value):(w.setCell ⟨b,3,none⟩ u).cell? ⟨g,i,none⟩=some (.string bs):=by
 by_cases e:g=b
 ·subst e
  rw [coh hb] at h
  rw [coh (heap_set (i:=3) u hb)]
  match i,h with
  | 0,h=>exact h
  | 1,h=>exact h
  | 2,h=>exact h
  | 3,h=>simp at h
  | i+4,h=>simp at h
 ·exact (World.cell?_of_block (blk_off e)).trans h
def SwJ (w wl:World) (bo eb:Nat) (lab:List UInt8) (colon:Bool) (zn:List UInt8) (x:Ex) (xA:Option Addr) (xc:Nat) (ws:List (List UInt8)) (zA:Option Addr) (k:Nat) (us:List Value) (vA:Option Addr) (vc:Nat) (wr:World):Prop:=
 ArRow wr wl.heap.size (fun g=>g≠bo) (.slice vA k vc) ((ws.take k).map (argRw x)) us/\wr.heap[bo]? = some (.cells #[.string ⟨lab.toArray⟩,.bool colon,.string ⟨zn.toArray⟩,.slice vA k vc] 24 (0,0)) /\
  (∀ j (hj:j<ws.length),∃ g o,zA=some ⟨g,o,none⟩/\g<wl.heap.size/\wr.cell? ⟨g,o+j,none⟩=some (.string ⟨ws[j].toArray⟩)) /\
  wr.heap[eb]? = some (.cells #[.string ⟨x.op.toArray⟩,.int .u16 x.n,.string ⟨x.name.toArray⟩,.slice xA x.sub.length xc] 34 (0,0))/\wr.heap[w.heap.size+1]? = some (.cells #[.string ⟨#[]⟩,.bool false,.string ⟨#[]⟩,.slice none 0 0] 24 (0,0)) /\
  SubAt wr (fun g=>g<wl.heap.size/\g≠bo) (.slice xA x.sub.length xc) x.sub/\wl.heap.size<=wr.heap.size/\Below w.heap.size w wr/\(w.heap.size<bo/\w.heap.size+1≠bo/\bo≠eb/\bo<wl.heap.size/\eb<wl.heap.size)
theorem SwJ.step {w wl wr w9:World} {bo eb:Nat} {lab:List UInt8} {colon:Bool} {zn:List UInt8} {x:Ex} {xA:Option Addr} {xc:Nat} {ws:List (List UInt8)} {zA:Option Addr} {k:Nat} {us us':List Value} {vA A9:Option Addr} {vc c9:Nat} (h:SwJ w wl bo eb lab colon zn x xA xc ws zA k us vA vc wr)
  (hb:Below wl.heap.size wr w9) (hr:ArRow w9 wl.heap.size (fun g=>g≠bo) (.slice A9 (k+1) c9) ((ws.take (k+1)).map (argRw x)) us'):SwJ w wl bo eb lab colon zn x xA xc ws zA (k+1) us' A9 c9 (w9.setCell ⟨bo,3,none⟩ (.slice A9 (k+1) c9)):=by
 obtain ⟨_,h2,h3,h4,h5,h6,h7,h8,n1,n2,n3,n4,n5⟩:=h
 have K9:=(hb.block bo n4).trans h2
 refine ⟨hr.alien n4 (fun g hg=>hg) 3 _,by rw [heap_set (i:=3) _ K9];rfl,fun j hj=>?_,(blk_off (by omega)).trans ((hb.block eb n5).trans h4),(blk_off n2).trans ((hb.block _ (by omega)).trans h5),
  (h6.keep (fun p hp=>hb.cell hp.1) (fun g hg=>hg)).putOff (fun g hg=>⟨hg.2,hg⟩) _ _,by have:=hb.size;rw [size_set];omega,(h8.trans (hb.mono (by omega))).setCell (Nat.le_of_lt n1) _,n1,n2,n3,n4,n5⟩
 obtain ⟨g,o,e,hg,hc⟩:=h3 j hj
 exact ⟨g,o,e,hg,cell_alt K9 ((hb.cell (p:=⟨g,o+j,none⟩) hg).trans hc) _⟩
theorem namesRw_eq {e:Ex} (h:rightE e 24=true):namesRw e=renE e:=by unfold namesRw;rw [if_pos h]
set_option maxHeartbeats 16000000 in
set_option maxRecDepth 100000 in
theorem rstmt_any (s:St) (v:Value) (w:World) (hf:fitS s) (hs:ArAt w (· < w.heap.size) v s.args) :
  Calls Tryz.prog 7 #[stV s v] w (StmtP w (stmtRw s)):=by
 have HRW:Hid (stmtRw s=if rightS 0 s≠0 then (st0,rightS 0 s)
  else if (renA s.label).2≠0 then (st0,(renA s.label).2)
  else if (renArs s.args).2≠0 then (st0,(renArs s.args).2)
  else if s.op∉dirOps then (if (turnRw (renS s)).2≠0 then (st0,(turnRw (renS s)).2) else ((turnRw (renS s)).1,0))
  else if s.args.any (fun a=>a.w != [])=true then (st0,2)
  else (renS s,0)):=LH rfl
 have HR:=LH (fun W (hW:Below w.heap.size w W)=>rright12_any 0 s v W hf (hs.at hW hW.size))
 have HS:=LH hs
 obtain ⟨A,c,rfl,hc,hm⟩:=hs.form
 have HFIT:=LH hf
 unfold stV at *
 generalize stmtRw s=res at *
 clear hs
 have B2:=LH ((bra w (.cells #[Sx s.label,.bool s.colon,Sx s.op,.slice A s.args.length c] 24)).alloc (by simp) (.cells #[Sn,Bf,Sn,Zs] 24))
 have O0:=LH ((Below.heap_alloc (w.alloc (.cells #[Sx s.label,.bool s.colon,Sx s.op,.slice A s.args.length c] 24)) (.cells #[Sn,Bf,Sn,Zs] 24) w.heap.size (by simp)).trans (heap_alloc_new w (.cells #[Sx s.label,.bool s.colon,Sx s.op,.slice A s.args.length c] 24)))
 have O1:=LH (heap_alloc_new (w.alloc (.cells #[Sx s.label,.bool s.colon,Sx s.op,.slice A s.args.length c] 24)) (.cells #[Sn,Bf,Sn,Zs] 24))
 rw [show (w.alloc (.cells #[Sx s.label,.bool s.colon,Sx s.op,.slice A s.args.length c] 24)).heap.size=w.heap.size+1 by simp] at O1
 have HRT:=LH (fun (h:rightS 0 s=0)=>rightS_expr h)
 have HFEW:=LH (fun (h:rightS 0 s=0)=>(rightS.form h).few)
 have HRI:Hid (∃ rk,rk=rightS 0 s):=LH ⟨_,rfl⟩
 obtain ⟨rk,hrk0⟩:=HRI.out
 have HRK:=LH hrk0
 rw [← hrk0] at HRW HR HRT HFEW
 clear HRI hrk0
 go_enter Tryz.func7, Tryz.ntmps7
 go_wp2_with fail
 refine (HR.out _ B2.out).mono ?_
 rintro e w1 ⟨rfl,hb1⟩
 have B1:=LH (bthen B2.out hb1)
 have P0:=LH ((hb1.block w.heap.size (by simp;omega)).trans O0.out)
 have P1:=LH ((hb1.block (w.heap.size+1) (by simp)).trans O1.out)
 have hw1:w.heap.size+1<w1.heap.size:=loh P1.out
 have hw10:w.heap.size<w1.heap.size:=by omega
 obtain ⟨⟨x0,x1,x2,x3⟩,f0,f1,f2,f3⟩:=four P0.out
 obtain ⟨⟨z0,z1,z2,z3⟩,g0,g1,g2,g3⟩:=four P1.out
 clear hb1 HR B2 O0 O1
 by_cases hrk:rk=0
 rotate_left
 ·have e5:((rk:Int) != 0)=true:=by rw [bne_iff_ne];omega
  have HX:=LH (HRW.out.trans (if_pos hrk))
  clear hrk HRW HRT HFEW HRK
  go_wp2_with fail
  refine bodyPost_ret (v:=.tuple #[.agg #[Sn,Bf,Sn,Zs],.int .i64 rk]) (by simp [results,Tryz.results7,go_sem,z0,z1,z2,z3]) rfl ?_
  exact StmtP.bad rk HX.out ((((B1.out.setCell (Nat.le_succ _) _).setCell (Nat.le_succ _) _).setCell (Nat.le_succ _) _).setCell (Nat.le_succ _) _)
 subst hrk
 have HRW1:=LH (HRW.out.trans (if_neg (by simp)))
 have HRT1:=LH (HRT.out rfl)
 have hfew:s.args.length<=32:=HFEW.out rfl
 have hlab:s.label.length<=1000:=HFIT.out.1
 have HREN:=LH (fun W=>refRename_any s.label (by omega) W)
 clear HRW HRT HFEW
 generalize hrn:renA s.label=rn at HRW1 HREN
 have HRN:=LH hrn
 obtain ⟨lab,lk⟩:=rn
 simp only at HREN HRW1
 have BK:=LH (bra w1 (.cells #[Sn,.bool s.colon,Sx s.op,Zs] 24))
 have OK1:=LH (heap_alloc_new w1 (.cells #[Sn,.bool s.colon,Sx s.op,Zs] 24))
 clear hrn
 go_wp2_with fail
 refine (HREN.out _).mono ?_
 rintro e w2 ⟨rfl,hb2⟩
 have BB2:=LH (bthen (bthen B1.out BK.out) hb2)
 have KK2:=LH ((hb2.block w1.heap.size (by simp)).trans OK1.out)
 have P02:=LH ((hb2.block w.heap.size (by simp;omega)).trans ((Below.heap_alloc _ _ w.heap.size hw10).trans P0.out))
 have P12:=LH ((hb2.block (w.heap.size+1) (by simp;omega)).trans ((Below.heap_alloc _ _ (w.heap.size+1) hw1).trans P1.out))
 have hw2:w1.heap.size<w2.heap.size:=loh KK2.out
 clear hb2 HREN BK OK1 x0 x1 x2 x3 f0 f1 f2 f3 z0 z1 z2 z3 g0 g1 g2 g3
 obtain ⟨⟨x0,x1,x2,x3⟩,f0,f1,f2,f3⟩:=four P02.out
 obtain ⟨⟨z0,z1,z2,z3⟩,g0,g1,g2,g3⟩:=four P12.out
 obtain ⟨⟨y0,y1,y2,y3⟩,h0,h1,h2,h3⟩:=four KK2.out
 by_cases hlk:lk=0
 rotate_left
 ·have e5:((lk:Int) != 0)=true:=by rw [bne_iff_ne];omega
  have HX:=LH (HRW1.out.trans (if_pos hlk))
  clear hlk HRW1 HRT1
  go_wp2_with fail
  refine bodyPost_ret (v:=.tuple #[.agg #[Sn,Bf,Sn,Zs],.int .i64 lk]) (by simp [results,Tryz.results7,go_sem,z0,z1,z2,z3]) rfl ?_
  exact StmtP.bad lk HX.out ((((BB2.out.setCell (Nat.le_succ _) _).setCell (Nat.le_succ _) _).setCell (Nat.le_succ _) _).setCell (Nat.le_succ _) _)
 subst hlk
 have HRW2:=LH (HRW1.out.trans (if_neg (by simp)))
 clear HRW1
 have HI0:Hid (SwI w w1.heap.size s lab A c 0 (w2.setCell ⟨w1.heap.size,0,none⟩ (Sx lab))):=LH
  ⟨[],none,0,ArRow.nil _ _ _,fun j _ hj=>absurd hj (by omega),heap_set (i:=0) (Sx lab) KK2.out,BB2.out.setCell (p:=⟨w1.heap.size,0,none⟩) (Nat.le_of_lt hw10) (Sx lab),(blk_off (by omega)).trans P02.out,(blk_off (by omega)).trans P12.out⟩
 have HFE:Hid (∀ j (hj:j<s.args.length),fitE s.args[j].e=true):=LH (fun j hj=>(HFIT.out.2.2 _ (List.getElem_mem hj)).2.2)
 have HRA:=LH (renArs_ok s.args)
 have HRB:=LH (renArs_bad s.args)
 go_wp2_with fail
 clear KK2 P02 P12 BB2 x0 x1 x2 x3 f0 f1 f2 f3 z0 z1 z2 z3 g0 g1 g2 g3 y0 y1 y2 y3 h0 h1 h2 h3
 generalize w2.setCell ⟨w1.heap.size,0,none⟩ (Sx lab)=wz at *
 go_loopw [8] (fun i wr=>∃ k:Nat,k<=s.args.length/\i=.int .i64 k/\SwI w w1.heap.size s lab A c k wr) (fun i _=>s.args.length - (intOf i).toNat)
 case atStart=>exact ⟨0,Nat.zero_le _,rfl,HI0.out⟩
 case round=>
  obtain ⟨k,hk,rfl,us,GA,gc,har,hpre,hkw,hbw,hp0,hp1⟩:=hrel
  have HAR:=LH har
  have HPRE:=LH hpre
  have KW:=LH hkw
  have BW:=LH hbw
  have P0:=LH hp0
  have P1:=LH hp1
  have hwb:w1.heap.size<wr.heap.size:=loh hkw
  obtain ⟨⟨y0,y1,y2,y3⟩,h0,h1,h2,h3⟩:=four hkw
  obtain ⟨⟨x0,x1,x2,x3⟩,f0,f1,f2,f3⟩:=four hp0
  clear har hpre hkw hbw hp0 hp1
  by_cases hlt:k<s.args.length
  ·have i1:(k:Int)<(s.args.length:Int):=by omega
   obtain ⟨ga,oa,vk,hA,hgl,m0,m1,m2,m3,m4,m5,m6,m7,hsub⟩:=(HS.out.keep (S':=(· < w.heap.size)) (fun p hp=>BW.out.cell hp) (fun g hg=>hg)).get k hlt
   subst hA
   obtain ⟨sA,sc,rfl,_,_⟩:=hsub.form
   have HSB:=LH hsub
   have HB0:=LH (HRB.out k hlt HPRE.out)
   have HT0:Hid ((renAr s.args[k]).2=0->∀ j (hj:j<s.args.length),j<k+1->(renAr s.args[j]).2=0):=LH (fun h j hj hjk=>by
    by_cases e:j=k
    ·subst e;exact h
    ·exact HPRE.out j hj (by omega))
   have HTK:Hid ((s.args.take (k+1)).map (fun a=>(renAr a).1)=(s.args.take k).map (fun a=>(renAr a).1)++[(renAr s.args[k]).1]):=LH (by rw [List.take_succ_eq_append_getElem hlt,List.map_append];rfl)
   have HKL:Hid (((s.args.take k).map (fun a=>(renAr a).1)).length=k):=LH (by simp;omega)
   have hfe:=HFE.out k hlt
   have HRR:=LH (HRT1.out s.args[k] (List.getElem_mem hlt))
   have hrow:=HAR.out.2.1
   rw [HKL.out] at hrow
   have HROW:=LH hrow
   have hgw:ga<wr.heap.size:=by omega
   clear hrow hsub
   generalize s.args[k]=a at *
   obtain ⟨aw,at1,ais,amem,ae⟩:=a
   simp only at m0 m1 m2 m3 m4 m5 m6 m7 HSB hfe HRR
   obtain ⟨ab,hab⟩:∃ o,o=Obj.cells #[Sx aw,Sx at1,.bool ais,.bool amem,Sx ae.op,.int .u16 ae.n,Sx ae.name,.slice sA ae.sub.length sc] 36 (0,0):=⟨_,rfl⟩
   obtain ⟨b1,hb1⟩:∃ b,(aw == [])=b:=⟨_,rfl⟩
   have HRX:Hid (renAr ⟨aw,at1,ais,amem,ae⟩=if b1=true/\ais=false then (⟨aw,at1,ais,amem,(renE ae).1⟩,(renE ae).2) else (⟨aw,at1,ais,amem,ae⟩,0)):=LH (by
    rw [← hb1];unfold renAr;by_cases hw:aw = [] <;> cases ais <;> simp [hw])
   have HRT2:Hid (b1=true->ais=false->rightE ae 24=true):=LH (fun h1 h2=>HRR.out (by rw [h1] at hb1;simpa using hb1) h2)
   generalize renAr ⟨aw,at1,ais,amem,ae⟩=ra at *
   clear HRR
   have plain:Hid (ra=(⟨aw,at1,ais,amem,ae⟩,0)->ArRow wr (w1.heap.size+1) (fun g=>g≠w1.heap.size) (.slice GA k gc) ((s.args.take k).map fun a=>(renAr a).1) us):=LH (fun _=>HAR.out)
   clear plain
   cases b1
   ·have hra:ra=(⟨aw,at1,ais,amem,ae⟩,0):=HRX.out.trans (if_neg (by simp))
    subst hra
    have HT:=LH (HT0.out rfl)
    clear HRX HRT2 HT0 HB0
    have BA:=LH (bra wr ab)
    have BE:=LH (BA.out.alloc BA.out.size ab)
    have HA8:=LH (HAR.out.bel BE.out).2.1
    rw [HKL.out] at HA8
    have HN8:Hid (Rd ((wr.alloc ab).alloc ab) (wr.heap.size+1+1) (.slice (some ⟨wr.heap.size+1,0,none⟩) 1 1) 1 (arCells ⟨aw,at1,ais,amem,ae⟩ (.slice sA ae.sub.length sc))):=LH (by rw [hab];exact rd_new (wr.alloc _) (wr.heap.size+1) (by simp) (arCells ⟨aw,at1,ais,amem,ae⟩ (.slice sA ae.sub.length sc)) 36)
    have HS8:Hid (SubAt ((wr.alloc ab).alloc ab) (fun g=>(g<((wr.alloc ab).alloc ab).heap.size/\(Value.slice GA k gc).ownBlock≠some g)/\g≠w1.heap.size) (.slice sA ae.sub.length sc) ae.sub):=LH (HSB.out.keep (fun p hp=>BE.out.cell (Nat.lt_of_lt_of_le hp BW.out.size)) (fun g hg=>⟨⟨Nat.lt_of_lt_of_le hg (Nat.le_trans BW.out.size BE.out.size),fun hh=>by have:=(HROW.out.lt g hh).1;have h9:g<w.heap.size:=hg;omega⟩,by have h9:g<w.heap.size:=hg;omega⟩))
    have hb8:w1.heap.size+1<=((wr.alloc ab).alloc ab).heap.size:=Nat.le_trans hwb BE.out.size
    go_wp2_with (at_builtin;rw [← hab];refine wpList_append_to _ rfl (.tmp 73) (.tmp 75) 22 rfl (w1.heap.size+1) 36 _ 8 104 Tryz.underlying22 info_ar rfl (by omega) HA8.out rfl HN8.out rfl rfl (arCells_one ⟨aw,at1,ais,amem,ae⟩ _ rfl) (by omega) (by omega) hb8 ?_;intro v9 w9 hown9 hbel9 hg9 hv9;obtain ⟨A9,c9,rfl,_,_,_⟩:=own_slice hown9 (by omega);have ON:=LH (ArRow.snoc HAR.out BE.out HS8.out (by rw [HKL.out];exact hown9) hg9 hv9);have B9:=LH ((BE.out.mono (show w1.heap.size+1<=wr.heap.size by omega)).trans hbel9);have K9:=LH ((B9.out.block w1.heap.size (by omega)).trans KW.out);obtain ⟨⟨q0,q1,q2,q3⟩,k0,k1,k2,k3⟩:=four K9.out;clear hown9 hbel9 hg9 hv9 HA8 HN8 HS8 hb8)
    go_roundw
    case rel=>
     refine ⟨k+1,by omega,by go_num,us++[.slice sA ae.sub.length sc],A9,c9,?_,HT.out,?_,?_,?_,?_⟩
     ·rw [HTK.out]
      exact ON.out.alien (by omega) (fun g hg=>hg) 3 _
     ·rw [heap_set (i:=3) _ K9.out]
      rfl
     ·exact (BW.out.trans (B9.out.mono (by omega))).setCell (Nat.le_of_lt hw10) _
     ·exact (blk_off (by omega)).trans ((B9.out.block w.heap.size (by omega)).trans P0.out)
     ·exact (blk_off (by omega)).trans ((B9.out.block (w.heap.size+1) (by omega)).trans P1.out)
    case measure=>simp [intOf];omega
   ·cases ais
    ·have hright:=HRT2.out rfl rfl
     have hra:ra=(⟨aw,at1,false,amem,(renE ae).1⟩,(renE ae).2):=HRX.out.trans (if_pos ⟨rfl,rfl⟩)
     subst hra
     have BA:=LH (bra wr ab)
     have HNA:Hid (Calls Tryz.prog 23 #[exV ae (.slice sA ae.sub.length sc)] (wr.alloc ab) (NamesP (wr.alloc ab) (renE ae))):=LH (by
      have:=rNames_any ae (.slice sA ae.sub.length sc) (wr.alloc ab) hfe (HSB.out.keep (fun p hp=>BA.out.cell (Nat.lt_of_lt_of_le hp BW.out.size)) (fun g hg=>Nat.lt_of_lt_of_le hg (Nat.le_trans BW.out.size BA.out.size)))
      rw [namesRw_eq hright] at this
      exact this)
     unfold NamesP exV at HNA
     generalize renE ae=ne at *
     obtain ⟨e1,ek⟩:=ne
     simp only at HTK HT0 HB0 HNA
     clear HRX HRT2 hright hfe
     go_wp2_with fail
     rw [← hab]
     refine HNA.out.mono ?_
     rintro r w5 ⟨u,rfl,hsu,hb5⟩
     obtain ⟨uA,uc,rfl,_,_⟩:=hsu.form
     have HSU:=LH hsu
     have A5:=LH (((hb5.block wr.heap.size (by simp)).trans (heap_alloc_new wr ab)).trans (congrArg some hab))
     have B5:=LH (bthen BA.out hb5)
     have K5:=LH ((B5.out.block w1.heap.size hwb).trans KW.out)
     have P15:=LH ((B5.out.block (w.heap.size+1) (by omega)).trans P1.out)
     have hz5:wr.heap.size<w5.heap.size:=loh A5.out
     have hq1:w.heap.size+1<w5.heap.size:=loh P15.out
     have hq3:w1.heap.size<w5.heap.size:=loh K5.out
     clear hsu hb5 HNA y0 y1 y2 y3 h0 h1 h2 h3 x0 x1 x2 x3 f0 f1 f2 f3 m0 m1 m2 m3 m4 m5 m6 m7
     obtain ⟨⟨a0,a1,a2,a3,a4,a5,a6,a7⟩,d4,d5,d6,d7⟩:=eightc A5.out
     obtain ⟨⟨y0,y1,y2,y3⟩,h0,h1,h2,h3⟩:=four K5.out
     obtain ⟨⟨z0,z1,z2,z3⟩,g0,g1,g2,g3⟩:=four P15.out
     by_cases hek:ek=0
     ·subst hek
      have HT:=LH (HT0.out rfl)
      obtain ⟨wq,hwq⟩:∃ wq,wq=(((w5.setCell ⟨wr.heap.size,4,none⟩ (Sx e1.op)).setCell ⟨wr.heap.size,5,none⟩ (.int .u16 e1.n)).setCell ⟨wr.heap.size,6,none⟩ (Sx e1.name)).setCell ⟨wr.heap.size,7,none⟩ (.slice uA e1.sub.length uc):=⟨_,rfl⟩
      have zq:wq.heap.size=w5.heap.size:=by rw [hwq];simp [World.setCell]
      have AQ:Hid (wq.heap[wr.heap.size]? = some (.cells #[Sx aw,Sx at1,Bf,.bool amem,Sx e1.op,.int .u16 e1.n,Sx e1.name,.slice uA e1.sub.length uc] 36 (0,0))):=LH (by rw [hwq,heap_set (i:=7) _ (heap_set (i:=6) _ (heap_set (i:=5) _ (heap_set (i:=4) _ A5.out)))];rfl)
      have BQ:Hid (Below wr.heap.size wr wq):=LH (by rw [hwq];exact (((B5.out.setCell (Nat.le_refl _) _).setCell (Nat.le_refl _) _).setCell (Nat.le_refl _) _).setCell (Nat.le_refl _) _)
      have SQ:Hid (SubAt wq (fun g=>wr.heap.size+1<=g/\g<w5.heap.size) (.slice uA e1.sub.length uc) e1.sub):=LH (by
       rw [hwq]
       exact (((HSU.out.putOff (S':=fun g=>wr.heap.size+1<=g/\g<w5.heap.size) (fun g hg=>by have h9:=hg.1;simp at h9;exact ⟨by omega,by omega,hg.2⟩) _ _).putOff (S':=fun g=>wr.heap.size+1<=g/\g<w5.heap.size) (fun g hg=>⟨by omega,hg⟩) _ _).putOff (S':=fun g=>wr.heap.size+1<=g/\g<w5.heap.size) (fun g hg=>⟨by omega,hg⟩) _ _).putOff (fun g hg=>⟨by omega,hg⟩) _ _)
      go_upto_region 18 with (fail)
      rw [← hwq]
      obtain ⟨w6,hw6⟩:∃ w6,w6=wq.alloc (.cells #[Sx e1.op,.int .u16 e1.n,Sx e1.name,.slice uA e1.sub.length uc] 34):=⟨_,rfl⟩
      rw [← hw6]
      have z6:w6.heap.size=w5.heap.size+1:=by rw [hw6];simp [zq]
      have A6:Hid (w6.heap[wr.heap.size]? = some (.cells #[Sx aw,Sx at1,Bf,.bool amem,Sx e1.op,.int .u16 e1.n,Sx e1.name,.slice uA e1.sub.length uc] 36 (0,0))):=LH (by rw [hw6];exact (Below.heap_alloc _ _ _ (by omega)).trans AQ.out)
      have B6:Hid (Below wr.heap.size wr w6):=LH (by rw [hw6];exact BQ.out.alloc BQ.out.size _)
      have S6:Hid (SubAt w6 (fun g=>wr.heap.size+1<=g/\g<w6.heap.size) (.slice uA e1.sub.length uc) e1.sub):=LH (by
       rw [hw6]
       exact SQ.out.keep (fun p hp=>World.cell?_alloc_lt _ _ _ (by have:=hp.2;omega)) (fun g hg=>⟨hg.1,by have:=hg.2;simp;omega⟩))
      have hz6:=loh A6.out
      clear hwq hw6 z6 zq A5 B5 K5 P15 AQ BQ SQ HSU hq1 hq3 a0 a1 a2 a3 a4 a5 a6 a7 d4 d5 d6 d7 y0 y1 y2 y3 h0 h1 h2 h3 z0 z1 z2 z3 g0 g1 g2 g3
      have K6:=LH ((B6.out.block w1.heap.size hwb).trans KW.out)
      have hw6b:w1.heap.size<w6.heap.size:=loh K6.out
      obtain ⟨⟨a0,a1,a2,a3,a4,a5,a6,a7⟩,_⟩:=eightc A6.out
      obtain ⟨⟨y0,y1,y2,y3⟩,_⟩:=four K6.out
      obtain ⟨eb,heb⟩:∃ o,o=Obj.cells #[Sx aw,Sx at1,Bf,.bool amem,Sx e1.op,.int .u16 e1.n,Sx e1.name,.slice uA e1.sub.length uc] 36 (0,0):=⟨_,rfl⟩
      have BE:=LH (B6.out.alloc B6.out.size eb)
      have HA8:=LH (HAR.out.bel BE.out).2.1
      rw [HKL.out] at HA8
      have HN8:Hid (Rd (w6.alloc eb) (w6.heap.size+1) (.slice (some ⟨w6.heap.size,0,none⟩) 1 1) 1 (arCells ⟨aw,at1,false,amem,e1⟩ (.slice uA e1.sub.length uc))):=LH (by rw [heb];exact rd_new w6 w6.heap.size rfl (arCells ⟨aw,at1,false,amem,e1⟩ (.slice uA e1.sub.length uc)) 36)
      have HS8:Hid (SubAt (w6.alloc eb) (fun g=>(g<(w6.alloc eb).heap.size/\(Value.slice GA k gc).ownBlock≠some g)/\g≠w1.heap.size) (.slice uA e1.sub.length uc) e1.sub):=LH (S6.out.keep (fun p hp=>World.cell?_alloc_lt _ _ _ hp.2) (fun g hg=>⟨⟨by have:=hg.2;simp;omega,fun hh=>by have:=(HROW.out.lt g hh).2;have:=hg.1;omega⟩,by have:=hg.1;omega⟩))
      have hb8:w1.heap.size+1<=(w6.alloc eb).heap.size:=Nat.le_trans hwb BE.out.size
      go_wp2_with (at_builtin;rw [← heb];refine wpList_append_to _ rfl (.tmp 73) (.tmp 75) 22 rfl (w1.heap.size+1) 36 _ 8 104 Tryz.underlying22 info_ar rfl (by omega) HA8.out rfl HN8.out rfl rfl (arCells_one ⟨aw,at1,false,amem,e1⟩ _ rfl) (by omega) (by omega) hb8 ?_;intro v9 w9 hown9 hbel9 hg9 hv9;obtain ⟨A9,c9,rfl,_,_,_⟩:=own_slice hown9 (by omega);have ON:=LH (ArRow.snoc HAR.out BE.out HS8.out (by rw [HKL.out];exact hown9) hg9 hv9);have B9:=LH ((BE.out.mono (show w1.heap.size+1<=wr.heap.size by omega)).trans hbel9);have K9:=LH ((B9.out.block w1.heap.size (by omega)).trans KW.out);obtain ⟨⟨q0,q1,q2,q3⟩,k0,k1,k2,k3⟩:=four K9.out;clear hown9 hbel9 hg9 hv9 HA8 HN8 HS8 hb8)
      go_roundw
      case rel=>
       refine ⟨k+1,by omega,by go_num,us++[.slice uA e1.sub.length uc],A9,c9,?_,HT.out,?_,?_,?_,?_⟩
       ·rw [HTK.out]
        exact ON.out.alien (by omega) (fun g hg=>hg) 3 _
       ·rw [heap_set (i:=3) _ K9.out]
        rfl
       ·exact (BW.out.trans (B9.out.mono (by omega))).setCell (Nat.le_of_lt hw10) _
       ·exact (blk_off (by omega)).trans ((B9.out.block w.heap.size (by omega)).trans P0.out)
       ·exact (blk_off (by omega)).trans ((B9.out.block (w.heap.size+1) (by omega)).trans P1.out)
      case measure=>simp [intOf];omega
     ·have e5:((ek:Int) != 0)=true:=by rw [bne_iff_ne];omega
      have HX:Hid (res=(st0,ek)):=LH (HRW2.out.trans (by rw [HB0.out hek];exact if_pos hek))
      clear hek HRW2 HB0 HT0
      go_wp2_with fail
      refine bodyPost_ret (v:=.tuple #[.agg #[Sn,Bf,Sn,Zs],.int .i64 ek]) (by simp [results,Tryz.results7,go_sem,z0,z1,z2,z3,hq1]) rfl ?_
      exact StmtP.bad ek HX.out (Below.alloc (((((BW.out.trans (B5.out.mono (by omega))).setCell (Nat.le_succ _) _).setCell (Nat.le_succ _) _).setCell (Nat.le_succ _) _).setCell (Nat.le_succ _) _) (by simp;omega) _)
    ·have hra:ra=(⟨aw,at1,true,amem,ae⟩,0):=HRX.out.trans (if_neg (by simp))
     subst hra
     have HT:=LH (HT0.out rfl)
     clear HRX HRT2 HT0 HB0
     have BA:=LH (bra wr ab)
     have BE:=LH (BA.out.alloc BA.out.size ab)
     have HA8:=LH (HAR.out.bel BE.out).2.1
     rw [HKL.out] at HA8
     have HN8:Hid (Rd ((wr.alloc ab).alloc ab) (wr.heap.size+1+1) (.slice (some ⟨wr.heap.size+1,0,none⟩) 1 1) 1 (arCells ⟨aw,at1,true,amem,ae⟩ (.slice sA ae.sub.length sc))):=LH (by rw [hab];exact rd_new (wr.alloc _) (wr.heap.size+1) (by simp) (arCells ⟨aw,at1,true,amem,ae⟩ (.slice sA ae.sub.length sc)) 36)
     have HS8:Hid (SubAt ((wr.alloc ab).alloc ab) (fun g=>(g<((wr.alloc ab).alloc ab).heap.size/\(Value.slice GA k gc).ownBlock≠some g)/\g≠w1.heap.size) (.slice sA ae.sub.length sc) ae.sub):=LH (HSB.out.keep (fun p hp=>BE.out.cell (Nat.lt_of_lt_of_le hp BW.out.size)) (fun g hg=>⟨⟨Nat.lt_of_lt_of_le hg (Nat.le_trans BW.out.size BE.out.size),fun hh=>by have:=(HROW.out.lt g hh).1;have h9:g<w.heap.size:=hg;omega⟩,by have h9:g<w.heap.size:=hg;omega⟩))
     have hb8:w1.heap.size+1<=((wr.alloc ab).alloc ab).heap.size:=Nat.le_trans hwb BE.out.size
     go_wp2_with (at_builtin;rw [← hab];refine wpList_append_to _ rfl (.tmp 73) (.tmp 75) 22 rfl (w1.heap.size+1) 36 _ 8 104 Tryz.underlying22 info_ar rfl (by omega) HA8.out rfl HN8.out rfl rfl (arCells_one ⟨aw,at1,true,amem,ae⟩ _ rfl) (by omega) (by omega) hb8 ?_;intro v9 w9 hown9 hbel9 hg9 hv9;obtain ⟨A9,c9,rfl,_,_,_⟩:=own_slice hown9 (by omega);have ON:=LH (ArRow.snoc HAR.out BE.out HS8.out (by rw [HKL.out];exact hown9) hg9 hv9);have B9:=LH ((BE.out.mono (show w1.heap.size+1<=wr.heap.size by omega)).trans hbel9);have K9:=LH ((B9.out.block w1.heap.size (by omega)).trans KW.out);obtain ⟨⟨q0,q1,q2,q3⟩,k0,k1,k2,k3⟩:=four K9.out;clear hown9 hbel9 hg9 hv9 HA8 HN8 HS8 hb8)
     go_roundw
     case rel=>
      refine ⟨k+1,by omega,by go_num,us++[.slice sA ae.sub.length sc],A9,c9,?_,HT.out,?_,?_,?_,?_⟩
      ·rw [HTK.out]
       exact ON.out.alien (by omega) (fun g hg=>hg) 3 _
      ·rw [heap_set (i:=3) _ K9.out]
       rfl
      ·exact (BW.out.trans (B9.out.mono (by omega))).setCell (Nat.le_of_lt hw10) _
      ·exact (blk_off (by omega)).trans ((B9.out.block w.heap.size (by omega)).trans P0.out)
      ·exact (blk_off (by omega)).trans ((B9.out.block (w.heap.size+1) (by omega)).trans P1.out)
     case measure=>simp [intOf];omega
  ·obtain rfl:k=s.args.length:=by omega
   have HAL:=LH (HRA.out (fun j hj=>HPRE.out j hj hj))
   have HL1:Hid (s.args.map (fun a=>(renAr a).1)=(renArs s.args).1):=LH (by rw [HAL.out])
   have HA0:Hid ((renArs s.args).2=0):=LH (by rw [HAL.out])
   have HRW3:=LH (HRW2.out.trans (if_neg (by rw [HA0.out];simp)))
   have HRAT:=LH (HAR.out.arAt (fun g hgg=>by omega))
   rw [List.take_length,HL1.out] at HRAT
   have HLEN:Hid ((renArs s.args).1.length=s.args.length):=LH (by rw [← HL1.out];simp)
   have HOKA:Hid (∀ a∈(renArs s.args).1,okE a.e):=LH (by
    rw [← HL1.out]
    intro a ha
    obtain ⟨b,hb,rfl⟩:=List.mem_map.1 ha
    obtain ⟨j,hj,rfl⟩:=List.getElem_of_mem hb
    unfold renAr
    split
    ·exact okE_of (HFE.out j hj)
    ·exact renE_ok (HFE.out j hj))
   have HDIR:=LH (fun W=>rdir_any s.op W)
   have i2:¬ (s.args.length:Int)<(s.args.length:Int):=by omega
   have d2:decide ((s.args.length:Int)<(s.args.length:Int))=false:=by simp
   obtain ⟨db,hdb⟩:∃ db,db=decide (s.op∈dirOps):=⟨_,rfl⟩
   rw [← hdb] at HDIR
   have HDB:=LH hdb
   clear hdb hlt HRA HRB HFE HRT1 HPRE HAR HRW2 HAL HI0
   go_wp2_with fail
   refine (HDIR.out _).mono ?_
   rintro r w5 ⟨rfl,hb5⟩
   have B5:=LH (bthen BW.out hb5)
   have K5:=LH ((hb5.block w1.heap.size hwb).trans KW.out)
   have Q0:=LH ((hb5.block w.heap.size (by omega)).trans P0.out)
   have Q1:=LH ((hb5.block (w.heap.size+1) (by omega)).trans P1.out)
   have HRAT5:=LH (HRAT.out.keep (S':=fun g=>g<w5.heap.size/\g≠w1.heap.size) (fun p hp=>hb5.cell hp.1) (fun g hgg=>⟨Nat.lt_of_lt_of_le hgg.1 hb5.size,hgg.2⟩))
   have hw5:w1.heap.size<w5.heap.size:=loh K5.out
   clear hb5 HDIR HRAT KW BW P0 P1 hwb y0 y1 y2 y3 h0 h1 h2 h3 x0 x1 x2 x3 f0 f1 f2 f3
   obtain ⟨⟨y0,y1,y2,y3⟩,h0,h1,h2,h3⟩:=four K5.out
   obtain ⟨⟨x0,x1,x2,x3⟩,f0,f1,f2,f3⟩:=four Q0.out
   obtain ⟨⟨z0,z1,z2,z3⟩,g0,g1,g2,g3⟩:=four Q1.out
   cases db with
   | true=>
    have hd:s.op∈dirOps:=by simpa using HDB.out.symm
    have HRW4:=LH (HRW3.out.trans (if_neg (fun h=>h hd)))
    have HREN:Hid (renS s=⟨lab,s.colon,s.op,(renArs s.args).1⟩):=LH (by unfold renS;rw [HRN.out])
    clear hd HDB HRW3 HRK HFIT
    go_wp2_with fail
    go_loopw [12] (fun i wx=>∃ j:Nat,j<=s.args.length/\i=.int .i64 j/\(∀ q (hq:q<s.args.length),q<j->s.args[q].w = [])/\wx=w5) (fun i _=>s.args.length - (intOf i).toNat)
    case atStart=>exact ⟨0,Nat.zero_le _,rfl,fun q _ hq=>absurd hq (by omega),rfl⟩
    case round=>
     obtain ⟨j,hj,rfl,hno,rfl⟩:=hrel
     have HNO:=LH hno
     clear hno
     by_cases hlt:j<s.args.length
     ·have i1:(j:Int)<(s.args.length:Int):=by omega
      obtain ⟨ga,oa,vk,hA,hgl,m0,m1,m2,m3,m4,m5,m6,m7,hsub⟩:=(HS.out.keep (S':=(· < w.heap.size)) (fun p hp=>B5.out.cell hp) (fun g hg=>hg)).get j hlt
      subst hA
      by_cases hw:s.args[j].w = []
      ·have HN1:Hid (∀ q (hq:q<s.args.length),q<j+1->s.args[q].w = []):=LH (fun q hq hqj=>by
        by_cases e:q=j
        ·subst e;exact hw
        ·exact HNO.out q hq (by omega))
       rw [hw] at m0
       clear hw m1 m2 m3 m4 m5 m6 m7 hsub HNO
       go_wp2_with fail
       go_roundw
       case rel=>exact ⟨j+1,by omega,by go_num,HN1.out,trivial⟩
       case measure=>simp [intOf];omega
      ·have q1:(s.args[j].w != [])=true:=by simpa using hw
       have q2:s.args[j].w.isEmpty=false:=Bool.eq_false_iff.2 (fun h=>hw (List.isEmpty_iff.1 h))
       have HX:=LH (HRW4.out.trans (if_pos (List.any_eq_true.2 ⟨s.args[j],List.getElem_mem hlt,q1⟩)))
       generalize s.args[j].w=aw at *
       clear hw m1 m2 m3 m4 m5 m6 m7 hsub HNO HRW4
       go_wp2_with fail
       refine bodyPost_ret (v:=.tuple #[.agg #[Sn,Bf,Sn,Zs],.int .i64 2]) (by simp [results,Tryz.results7,go_sem,z0,z1,z2,z3]) rfl ?_
       exact StmtP.bad 2 HX.out ((((B5.out.setCell (Nat.le_succ _) _).setCell (Nat.le_succ _) _).setCell (Nat.le_succ _) _).setCell (Nat.le_succ _) _)
     ·obtain rfl:j=s.args.length:=by omega
      have HX:Hid (res=(⟨lab,s.colon,s.op,(renArs s.args).1⟩,0)):=LH (by
       rw [HRW4.out,if_neg,HREN.out]
       simp only [List.any_eq_true,not_exists,not_and]
       intro a ha
       obtain ⟨q,hq,rfl⟩:=List.getElem_of_mem ha
       simp [HNO.out q hq hq])
      have HRAT6:=LH (HRAT5.out.offS Q1.out)
      clear hlt HNO HRW4
      go_wp2_with fail
      refine bodyPost_ret (v:=.tuple #[.agg #[Sx lab,.bool s.colon,Sx s.op,.slice GA s.args.length gc],.int .i64 0]) (by simp [results,Tryz.results7,go_sem,z0,z1,z2,z3]) rfl ?_
      rw [HX.out]
      refine ⟨.slice GA s.args.length gc,rfl,?_,(((B5.out.setCell (Nat.le_succ _) _).setCell (Nat.le_succ _) _).setCell (Nat.le_succ _) _).setCell (Nat.le_succ _) _⟩
      exact ((((HRAT6.out.putOff (fun g hgg=>hgg.2) 0 _).putOff (fun g hgg=>hgg.2) 1 _).putOff (fun g hgg=>hgg.2) 2 _).putOff (fun g hgg=>hgg.2) 3 _).more (fun g hgg=>by simpa using hgg.1.1)
   | false=>
    have hd:s.op∉dirOps:=by simpa using HDB.out.symm
    have HRW4:=LH (HRW3.out.trans (if_pos hd))
    have HS5:=LH (HS.out.keep (S':=(· < w5.heap.size)) (fun p hp=>B5.out.cell hp) (fun g hg=>Nat.lt_of_lt_of_le hg B5.out.size))
    have hq5:w.heap.size+1<w5.heap.size:=loh Q1.out
    by_cases hop:s.op=sRST
    ·obtain ⟨hr1,hr2⟩:=sw_rst HRK.out.symm HA0.out hop
     have HOF:=LH (of80_rst s (.slice A s.args.length c) w5 HS5.out hop)
     unfold stV at HOF
     obtain ⟨rb,hrb⟩:∃ rb,rb=rstB s:=⟨_,rfl⟩
     rw [← hrb] at HOF hr1 hr2
     cases rb with
     | false=>
      have HX:=LH (HRW4.out.trans (by rw [hr1 rfl];try rfl))
      clear hr1 hr2 hrb HRW3 HRW4 HDB hd hop HS5
      go_wp2_with fail
      refine HOF.out.mono ?_
      rintro r w6 ⟨rfl,hb6⟩
      have B6:=LH (bthen B5.out hb6)
      have Q6:=LH ((hb6.block (w.heap.size+1) hq5).trans Q1.out)
      have hq6:w.heap.size+1<w6.heap.size:=loh Q6.out
      clear hb6 HOF z0 z1 z2 z3 g0 g1 g2 g3
      obtain ⟨⟨z0,z1,z2,z3⟩,g0,g1,g2,g3⟩:=four Q6.out
      go_wp2_with fail
      refine bodyPost_ret (v:=.tuple #[.agg #[Sn,Bf,Sn,Zs],.int .i64 2]) (by simp [results,Tryz.results7,go_sem,z0,z1,z2,z3,hq6]) rfl ?_
      exact StmtP.bad 2 HX.out (Below.alloc ((((B6.out.setCell (Nat.le_succ _) _).setCell (Nat.le_succ _) _).setCell (Nat.le_succ _) _).setCell (Nat.le_succ _) _) (by simp <;> omega) _)
     | true=>
      obtain ⟨hl0,htu⟩:=hr2 rfl
      obtain ⟨x,hx⟩:∃ x,x=((renArs s.args).1.getD 0 ar0).e:=⟨_,rfl⟩
      rw [← hx] at htu
      have HX:Hid (res=(⟨lab,s.colon,s.op,[⟨[],[],false,false,e8R x⟩]⟩,0)):=LH (HRW4.out.trans (by rw [htu,HRN.out,hop];exact if_neg (by simp)))
      have hl1:0<(renArs s.args).1.length:=by rw [HLEN.out];exact hl0
      have hx2:(renArs s.args).1[0].e=x:=by rw [hx,List.getD_eq_getElem?_getD,List.getElem?_eq_getElem hl1];rfl
      have i0:(0:Int)<(s.args.length:Int):=by omega
      have e2:(s.op == sRST)=true:=by simp [hop]
      clear hr1 hr2 hrb HRW3 HRW4 HDB hd hop HS5 htu
      go_wp2_with fail
      refine HOF.out.mono ?_
      rintro r w6 ⟨rfl,hb6⟩
      have B6:=LH (bthen B5.out hb6)
      have K6:=LH ((hb6.block w1.heap.size hw5).trans K5.out)
      have Q06:=LH ((hb6.block w.heap.size (by omega)).trans Q0.out)
      have Q16:=LH ((hb6.block (w.heap.size+1) hq5).trans Q1.out)
      have HRAT6:=LH (HRAT5.out.keep (S':=fun g=>g<w6.heap.size/\g≠w1.heap.size) (fun p hp=>hb6.cell hp.1) (fun g hgg=>⟨Nat.lt_of_lt_of_le hgg.1 hb6.size,hgg.2⟩))
      clear hb6 HOF HRAT5 K5 Q0 Q1 y0 y1 y2 y3 h0 h1 h2 h3 x0 x1 x2 x3 f0 f1 f2 f3 z0 z1 z2 z3 g0 g1 g2 g3
      obtain ⟨⟨y0,y1,y2,y3⟩,h0,h1,h2,h3⟩:=four K6.out
      obtain ⟨⟨x0,x1,x2,x3⟩,f0,f1,f2,f3⟩:=four Q06.out
      obtain ⟨⟨z0,z1,z2,z3⟩,g0,g1,g2,g3⟩:=four Q16.out
      have hw6:w1.heap.size<w6.heap.size:=loh K6.out
      have hw60:w.heap.size<w6.heap.size:=loh Q06.out
      have hw61:w.heap.size+1<w6.heap.size:=loh Q16.out
      rw [← HLEN.out] at HRAT6 K6 y3 i0
      obtain ⟨g,o,xv,rfl,⟨hgl,hgb⟩,c0,c1,c2,c3,c4,c5,c6,c7,hsub⟩:=HRAT6.out.get 0 hl1
      rw [HLEN.out] at K6 y3 i0
      rw [hx2] at c4 c5 c6 hsub
      rw [show o+0 * 8=o by omega] at c4 c5 c6 c7
      obtain ⟨xA,xc,rfl,_,_⟩:=hsub.form
      have HXS:=LH hsub
      have hokx:okE x:=by rw [← hx2];exact HOKA.out _ (List.getElem_mem hl1)
      clear hsub c0 c1 c2 c3 hx hx2 hl1 hl0
      go_upto_region 32 with (fail)
      obtain ⟨w7,hw7⟩:∃ w7,w7=(w6.alloc (.cells #[Bt,.int .i64 199,.int .i64 0,.int .i64 0,.int .i64 0,.int .i64 3,Bf] 60)).alloc (.cells #[Sx x.op,.int .u16 x.n,Sx x.name,.slice xA x.sub.length xc] 34):=⟨_,rfl⟩
      rw [← hw7]
      have B67:Hid (Below w6.heap.size w6 w7):=LH (by rw [hw7];exact (bra _ _).alloc (by simp) _)
      have E7:Hid (w7.heap[w6.heap.size+1]? = some (.cells #[Sx x.op,.int .u16 x.n,Sx x.name,.slice xA x.sub.length xc] 34 (0,0))):=LH (by rw [hw7];exact heap_last (by simp) _)
      have B7:=LH (B6.out.trans (B67.out.mono (by omega)))
      have K7:=LH ((B67.out.block w1.heap.size hw6).trans K6.out)
      have Q07:=LH ((B67.out.block w.heap.size hw60).trans Q06.out)
      have Q17:=LH ((B67.out.block (w.heap.size+1) hw61).trans Q16.out)
      have HE8:=LH (reight_any (fun g=>g<w6.heap.size/\g≠w1.heap.size) x (.slice xA x.sub.length xc) w7 hokx (fun g hg=>Nat.lt_of_lt_of_le hg.1 B67.out.size) (HXS.out.keep (fun p hp=>B67.out.cell hp.1) (fun g hg=>hg)))
      have hw76:=B67.out.size
      unfold exV at HE8
      generalize e8R x=e8 at *
      clear hw7 B6 K6 Q06 Q16 HRAT6 HXS c4 c5 c6 c7 hgl hgb hokx y0 y1 y2 y3 h0 h1 h2 h3 x0 x1 x2 x3 f0 f1 f2 f3 z0 z1 z2 z3 g0 g1 g2 g3
      obtain ⟨⟨x0,x1,x2,x3⟩,f0,f1,f2,f3⟩:=four Q07.out
      obtain ⟨⟨c0,c1,c2,c3⟩,_⟩:=four E7.out
      go_wp2_with fail
      refine HE8.out.mono ?_
      rintro r w8 ⟨u,rfl,hsu,hb8⟩
      obtain ⟨uA,uc,rfl,_,_⟩:=hsu.form
      have B8:=LH (bthen B7.out hb8)
      have K8:=LH ((hb8.block w1.heap.size (loh K7.out)).trans K7.out)
      have Q18:=LH ((hb8.block (w.heap.size+1) (loh Q17.out)).trans Q17.out)
      have HSU:=LH (hsu.offS Q18.out)
      have hw8:w1.heap.size<w8.heap.size:=loh K8.out
      have hw81:w.heap.size+1<w8.heap.size:=loh Q18.out
      clear hsu hb8 HE8 K7 Q17 x0 x1 x2 x3 f0 f1 f2 f3 c0 c1 c2 c3
      obtain ⟨⟨y0,y1,y2,y3⟩,h0,h1,h2,h3⟩:=four K8.out
      obtain ⟨⟨z0,z1,z2,z3⟩,g0,g1,g2,g3⟩:=four Q18.out
      go_wp2_with fail
      have HSU2:=LH (HSU.out.more (S':=fun g=>g<w8.heap.size/\g≠w1.heap.size/\g≠w.heap.size+1) (fun g hg=>⟨hg.1.1,by rcases hg.1.2 with h | h;exact h.2;omega,hg.2⟩))
      refine bodyPost_ret (v:=.tuple #[.agg #[Sx lab,.bool s.colon,Sx s.op,.slice (some ⟨w8.heap.size,0,none⟩) 1 1],.int .i64 0]) (by simp [results,Tryz.results7,go_sem,z0,z1,z2,z3,hw81]) rfl ?_
      rw [HX.out]
      refine ⟨.slice (some ⟨w8.heap.size,0,none⟩) 1 1,rfl,?_,Below.alloc (((((B8.out.setCell (Nat.le_of_lt hw10) _).setCell (Nat.le_succ _) _).setCell (Nat.le_succ _) _).setCell (Nat.le_succ _) _).setCell (Nat.le_succ _) _) (by simp <;> omega) _⟩
      exact ArAt.one (S:=fun g=>g<w8.heap.size/\g≠w1.heap.size/\g≠w.heap.size+1) (u:=.slice uA e8.sub.length uc) (a:=⟨[],[],false,false,e8⟩)
       (((((HSU2.out.putOff (fun g hg=>⟨hg.2.1,hg⟩) _ _).putOff (fun g hg=>⟨hg.2.2,hg⟩) _ _).putOff (fun g hg=>⟨hg.2.2,hg⟩) _ _).putOff (fun g hg=>⟨hg.2.2,hg⟩) _ _).putOff (fun g hg=>⟨hg.2.2,hg⟩) _ _)
       (fun g hg=>by simpa using hg.1) (fun g hg=>by have:=hg.1;simp;omega) w8.heap.size (by simp) (by simp) 36
    ·have HOF:=LH (of80_any s (.slice A s.args.length c) w5 HS5.out hop (by omega))
     unfold stV at HOF
     have e2:(s.op == sRST)=false:=str_ne hop
     cases ho:of80P s with
     | none=>
      have HX:=LH (HRW4.out.trans (by rw [sw_none HRK.out.symm HA0.out hd hop ho];try rfl))
      rw [ho] at HOF
      unfold formV at HOF
      simp only at HOF
      clear HRW3 HRW4 HDB hd hop HS5 ho
      go_wp2_with fail
      refine HOF.out.mono ?_
      rintro r w6 ⟨rfl,hb6⟩
      have B6:=LH (bthen B5.out hb6)
      have Q6:=LH ((hb6.block (w.heap.size+1) hq5).trans Q1.out)
      have hq6:w.heap.size+1<w6.heap.size:=loh Q6.out
      clear hb6 HOF z0 z1 z2 z3 g0 g1 g2 g3
      obtain ⟨⟨z0,z1,z2,z3⟩,g0,g1,g2,g3⟩:=four Q6.out
      go_wp2_with fail
      refine bodyPost_ret (v:=.tuple #[.agg #[Sn,Bf,Sn,Zs],.int .i64 2]) (by simp [results,Tryz.results7,go_sem,z0,z1,z2,z3,hq6]) rfl ?_
      exact StmtP.bad 2 HX.out (Below.alloc ((((B6.out.setCell (Nat.le_succ _) _).setCell (Nat.le_succ _) _).setCell (Nat.le_succ _) _).setCell (Nat.le_succ _) _) (by simp <;> omega) _)
     | some po=>
      obtain ⟨op,oo⟩:=po
      obtain ⟨hop8,htu,hpos⟩:=sw_some HRK.out.symm HA0.out hd hop op oo ho
      obtain ⟨x,hx⟩:∃ x,x=eF oo (renArs s.args).1:=⟨_,rfl⟩
      rw [← hx] at htu
      have HX:Hid (res=(⟨lab,s.colon,zname op,(zargs op).map (argRw x)⟩,0)):=LH (HRW4.out.trans (by rw [htu,HRN.out];exact if_neg (by simp)))
      rw [ho] at HOF
      unfold formV at HOF
      simp only at HOF
      have HPS:=LH hpos
      have HXX:=LH hx
      have HZN:=LH (fun W=>refName7_any op hop8 W)
      have HZA:=LH (fun W=>refArgs7_any op hop8 W)
      have hz2:=zargs_len op hop8
      have cv:IntKind.u8.wrap (op:Int)=(op:Int):=IntWalk.u8_in _ (by omega)
      obtain ⟨ke,hke⟩:∃ ke,ke=kE oo:=⟨_,rfl⟩
      obtain ⟨kk,hkk⟩:∃ kk,kk=kK oo:=⟨_,rfl⟩
      rw [← hke,← hkk] at HOF
      have HKE:=LH hke
      generalize zargs op=ws at *
      generalize zname op=zn at *
      clear HRW3 HRW4 HDB hd hop HS5 ho htu hpos hx hke hkk
      go_wp2_with fail
      refine HOF.out.mono ?_
      rintro r w6 ⟨rfl,hb6⟩
      have B6:=LH (bthen B5.out hb6)
      have K6:=LH ((hb6.block w1.heap.size hw5).trans K5.out)
      have Q06:=LH ((hb6.block w.heap.size (by omega)).trans Q0.out)
      have Q16:=LH ((hb6.block (w.heap.size+1) hq5).trans Q1.out)
      have HRAT6:=LH (HRAT5.out.keep (S':=fun g=>g<w6.heap.size/\g≠w1.heap.size) (fun p hp=>hb6.cell hp.1) (fun g hgg=>⟨Nat.lt_of_lt_of_le hgg.1 hb6.size,hgg.2⟩))
      clear hb6 HOF HRAT5 K5 Q0 Q1 y0 y1 y2 y3 h0 h1 h2 h3 x0 x1 x2 x3 f0 f1 f2 f3 z0 z1 z2 z3 g0 g1 g2 g3
      obtain ⟨⟨y0,y1,y2,y3⟩,h0,h1,h2,h3⟩:=four K6.out
      have hw6:w1.heap.size<w6.heap.size:=loh K6.out
      have hw60:w.heap.size<w6.heap.size:=loh Q06.out
      have hw61:w.heap.size+1<w6.heap.size:=loh Q16.out
      go_upto_if 106 with (fail)
      go_cut [106,107,108,109,110,111,112,113] (fun _ _ _ _ _ _ _ _ wx=>Below w6.heap.size w6 wx/\wx.heap[w6.heap.size]? = some (.cells #[Bt,.int .i64 op,.int .i64 0,.int .i64 0,.int .i64 ke,.int .i64 kk,Bf] 60 (0,0))/\∃ xA xc,wx.heap[w6.heap.size+1]? = some (.cells #[Sx x.op,.int .u16 x.n,Sx x.name,.slice xA x.sub.length xc] 34 (0,0))/\SubAt wx (fun g=>g<w6.heap.size/\g≠w1.heap.size) (.slice xA x.sub.length xc) x.sub)
      case first=>
       cases oo with
       | none=>
        obtain rfl:ke = -1:=HKE.out
        have hx0:x=ex0:=HXX.out
        subst hx0
        clear HPS HXX HKE
        go_wp2_with fail
        go_meet
        exact ⟨(bra _ _).alloc (by simp) _,(Below.heap_alloc _ _ _ (by simp)).trans (heap_alloc_new w6 _),none,0,heap_last (by simp) _,SubAt.nil _ _⟩
       | some ik=>
        obtain ⟨i,kq⟩:=ik
        obtain rfl:ke=(i:Int):=HKE.out
        have hi:i<(renArs s.args).1.length:=by rw [HLEN.out];exact HPS.out i kq rfl
        have hx2:(renArs s.args).1[i].e=x:=by rw [HXX.out];unfold eF;simp only;rw [List.getD_eq_getElem?_getD,List.getElem?_eq_getElem hi];rfl
        have i0:(i:Int)<((renArs s.args).1.length:Int):=by omega
        rw [← HLEN.out] at HRAT6 K6 y3
        obtain ⟨g,o,xv,rfl,⟨hgl,hgb⟩,c0,c1,c2,c3,c4,c5,c6,c7,hsub⟩:=HRAT6.out.get i hi
        rw [HLEN.out] at K6 y3 i0
        rw [hx2] at c4 c5 c6 hsub
        obtain ⟨xA,xc,rfl,_,_⟩:=hsub.form
        have HXS:=LH hsub
        clear hsub c0 c1 c2 c3 HXX hx2 HPS HKE hi
        go_wp2_with fail
        go_meet
        exact ⟨(bra _ _).alloc (by simp) _,(Below.heap_alloc _ _ _ (by simp)).trans (heap_alloc_new w6 _),xA,xc,heap_last (by simp) _,HXS.out.keep (fun p hp=>(World.cell?_alloc_lt _ _ _ (by have:=hp.1;simp;omega)).trans (World.cell?_alloc_lt _ _ _ hp.1)) (fun g hg=>hg)⟩
      case rest=>
       obtain ⟨hb7,hf7,xA,xc,he7,hx7⟩:=hcut
       rename_i w7
       have B67:=LH hb7
       have F7:=LH hf7
       have E7:=LH he7
       have SX7:=LH hx7
       have B7:=LH (B6.out.trans (B67.out.mono (by omega)))
       have K7:=LH ((B67.out.block w1.heap.size hw6).trans K6.out)
       have Q07:=LH ((B67.out.block w.heap.size hw60).trans Q06.out)
       have Q17:=LH ((B67.out.block (w.heap.size+1) hw61).trans Q16.out)
       have hw76:=B67.out.size
       clear hb7 hf7 he7 hx7 HXX HPS HKE HRAT6 K6 Q06 Q16 B6 y0 y1 y2 y3 h0 h1 h2 h3
       obtain ⟨⟨x0,x1,x2,x3⟩,_⟩:=four Q07.out
       obtain ⟨⟨b0,b1,b2,b3,b4,b5,b6⟩,_⟩:=seven F7.out
       go_wp2_with fail
       refine (HZN.out _).mono ?_
       rintro r w8 ⟨rfl,hb8⟩
       have B8:=LH (bthen B7.out hb8)
       have B78:=LH hb8
       have K8:=LH ((hb8.block w1.heap.size (loh K7.out)).trans K7.out)
       have F8:=LH ((hb8.block w6.heap.size (loh F7.out)).trans F7.out)
       obtain ⟨⟨y0,y1,y2,y3⟩,h0,h1,h2,h3⟩:=four K8.out
       have K8':=LH (heap_set (i:=2) (Sx zn) K8.out)
       have B8':=LH (B8.out.setCell (p:=⟨w1.heap.size,2,none⟩) (Nat.le_of_lt hw10) (Sx zn))
       have F8':=LH ((blk_off (w:=w8) (g:=w1.heap.size) (i:=2) (u:=Sx zn) (show w6.heap.size≠w1.heap.size by omega)).trans F8.out)
       have E8':=LH ((blk_off (w:=w8) (g:=w1.heap.size) (i:=2) (u:=Sx zn) (show w6.heap.size+1≠w1.heap.size by omega)).trans ((hb8.block (w6.heap.size+1) (loh E7.out)).trans E7.out))
       have Q8':=LH ((blk_off (w:=w8) (g:=w1.heap.size) (i:=2) (u:=Sx zn) (show w.heap.size+1≠w1.heap.size by omega)).trans ((hb8.block (w.heap.size+1) (loh Q17.out)).trans Q17.out))
       have S8':Hid (SubAt (w8.setCell ⟨w1.heap.size,2,none⟩ (Sx zn)) (fun g=>g<w6.heap.size/\g≠w1.heap.size) (.slice xA x.sub.length xc) x.sub):=LH ((SX7.out.keep (fun p hp=>hb8.cell (Nat.lt_of_lt_of_le hp.1 hw76)) (fun g hg=>hg)).putOff (fun g hg=>⟨hg.2,hg⟩) _ _)
       have hw86:w6.heap.size<=(w8.setCell ⟨w1.heap.size,2,none⟩ (Sx zn)).heap.size:=by have:=hb8.size;rw [size_set];omega
       clear hb8 K7 F7 E7 Q17 Q07 SX7 b0 b1 b2 b3 b4 b5 b6 x0 x1 x2 x3 HZN
       obtain ⟨⟨b0,b1,b2,b3,b4,b5,b6⟩,_⟩:=seven F8.out
       go_wp2_with fail
       refine (HZA.out _).mono ?_
       rintro r w9 ⟨zv,rfl,hrd,hb9⟩
       have hrd2:RdS w9 w9.heap.size zv ws:=hrd
       obtain ⟨zA,zc,rfl,hzc⟩:=hrd2.form
       have HRD:=LH hrd2
       have B9:=LH (bthen B8'.out hb9)
       have K9:=LH ((hb9.block w1.heap.size (loh K8'.out)).trans K8'.out)
       have E9:=LH ((hb9.block (w6.heap.size+1) (loh E8'.out)).trans E8'.out)
       have Q9:=LH ((hb9.block (w.heap.size+1) (loh Q8'.out)).trans Q8'.out)
       have S9:=LH (S8'.out.keep (S':=fun g=>g<w9.heap.size/\g≠w1.heap.size) (fun p hp=>hb9.cell (Nat.lt_of_lt_of_le hp.1 hw86)) (fun g hg=>⟨Nat.lt_of_lt_of_le hg.1 (Nat.le_trans hw86 hb9.size),hg.2⟩))
       have HJ0:Hid (SwJ w (w9.setCell ⟨w1.heap.size,3,none⟩ (Zs)) w1.heap.size (w6.heap.size+1) lab s.colon zn x xA xc ws zA 0 [] none 0 (w9.setCell ⟨w1.heap.size,3,none⟩ (Zs))):=LH (by
        have z9:(w9.setCell ⟨w1.heap.size,3,none⟩ (Zs)).heap.size=w9.heap.size:=size_set _ _ _
        refine ⟨ArRow.nil _ _ _,by rw [heap_set (i:=3) _ K9.out];rfl,fun j hj=>?_,(blk_off (by omega)).trans E9.out,(blk_off (by omega)).trans Q9.out,(S9.out.putOff (fun g hg=>⟨hg.2,hg⟩) _ _).more (fun g hg=>by rw [z9];exact hg),Nat.le_refl _,B9.out.setCell (Nat.le_of_lt hw10) _,hw10,by omega,by omega,by rw [z9];exact loh K9.out,by rw [z9];exact loh E9.out⟩
        obtain ⟨g,o,e,hg,hc⟩:=HRD.out.get j hj
        exact ⟨g,o,e,by rw [z9];exact hg,cell_alt K9.out (hc j hj) _⟩)
       clear hrd hrd2 hb9 HRD B8 B8' K8 K8' F8 F8' E8' Q8' S8' B78 y0 y1 y2 y3 h0 h1 h2 h3 b0 b1 b2 b3 b4 b5 b6 HZA
       obtain ⟨⟨y0,y1,y2,y3⟩,h0,h1,h2,h3⟩:=four K9.out
       go_wp2_with fail
       clear K9 E9 Q9 S9 B9 y0 y1 y2 y3 h0 h1 h2 h3 hw86
       generalize w9.setCell ⟨w1.heap.size,3,none⟩ (Zs)=wl at *
       go_loopw [16] (fun i wr=>∃ (k:Nat),k<=ws.length/\i=.int .i64 k/\∃ (us:List Value) (vA:Option Addr) (vc:Nat),SwJ w wl w1.heap.size (w6.heap.size+1) lab s.colon zn x xA xc ws zA k us vA vc wr) (fun i _=>ws.length - (intOf i).toNat)
       case atStart=>exact ⟨0,Nat.zero_le _,rfl,_,_,_,HJ0.out⟩
       case round=>
        obtain ⟨k,hk,rfl,us,vA,vc,hj⟩:=hrel
        have HJ:=LH hj
        obtain ⟨j1,j2,j3,j4,j5,j6,hwl,j8,_,_,_,hwlb,_⟩:=hj
        have HAR:=LH j1
        have KW:=LH j2
        have HCK:=LH j3
        have SX:=LH j6
        have BW:=LH j8
        have Q1:=LH j5
        obtain ⟨⟨c0,c1,c2,c3⟩,_⟩:=four j4
        obtain ⟨⟨y0,y1,y2,y3⟩,_⟩:=four j2
        have hwb:w1.heap.size<wr.heap.size:=loh j2
        have hwe:w6.heap.size+1<wr.heap.size:=loh j4
        have HKL:Hid (((ws.take k).map (argRw x)).length=k):=LH (by simp;omega)
        clear j1 j2 j3 j4 j5 j6 j8
        by_cases hlt:k<ws.length
        ·have i1:(k:Int)<(ws.length:Int):=by omega
         obtain ⟨g,o,e0,hgl,ck⟩:=HCK.out k hlt
         subst e0
         have hgw:g<wr.heap.size:=by omega
         have hrow:=HAR.out.2.1
         rw [HKL.out] at hrow
         have HROW:=LH hrow
         have HTK:Hid ((ws.take (k+1)).map (argRw x)=(ws.take k).map (argRw x)++[argRw x ws[k]]):=LH (by rw [List.take_succ_eq_append_getElem hlt,List.map_append];rfl)
         clear hrow HCK
         generalize ws[k]=y at *
         by_cases hn:y = [110]∨y = [110,110]
         ·have e1:argRw x y=⟨[],[],false,false,x⟩:=by unfold argRw;rw [if_pos hn]
          rw [e1] at HTK
          clear e1
          rcases hn with rfl | rfl
          all_goals (
           obtain ⟨ob,hob⟩:∃ o,o=Obj.cells #[Sn,Sn,Bf,Bf,Sx x.op,.int .u16 x.n,Sx x.name,.slice xA x.sub.length xc] 36 (0,0):=⟨_,rfl⟩
           have BE:=LH (bra wr ob)
           have HA8:=LH (HAR.out.bel BE.out).2.1
           rw [HKL.out] at HA8
           have HN8:Hid (Rd (wr.alloc ob) (wr.heap.size+1) (.slice (some ⟨wr.heap.size,0,none⟩) 1 1) 1 (arCells ⟨[],[],false,false,x⟩ (.slice xA x.sub.length xc))):=LH (by rw [hob];exact rd_new wr wr.heap.size rfl (arCells ⟨[],[],false,false,x⟩ (.slice xA x.sub.length xc)) 36)
           have HS8:Hid (SubAt (wr.alloc ob) (fun g=>(g<(wr.alloc ob).heap.size/\(Value.slice vA k vc).ownBlock≠some g)/\g≠w1.heap.size) (.slice xA x.sub.length xc) x.sub):=LH (SX.out.keep (fun p hp=>BE.out.cell (Nat.lt_of_lt_of_le hp.1 hwl)) (fun g hg=>⟨⟨Nat.lt_of_lt_of_le hg.1 (Nat.le_trans hwl BE.out.size),fun hh=>by have:=(HROW.out.lt g hh).1;have h9:=hg.1;omega⟩,hg.2⟩))
           have hb8:wl.heap.size<=(wr.alloc ob).heap.size:=Nat.le_trans hwl BE.out.size
           go_wp2_with (at_builtin;rw [← hob];refine wpList_append_to _ rfl (.tmp 157) (.tmp 160) 22 rfl wl.heap.size 36 _ 8 104 Tryz.underlying22 info_ar rfl (by omega) HA8.out rfl HN8.out rfl rfl (arCells_one ⟨[],[],false,false,x⟩ _ rfl) (by omega) (by omega) hb8 ?_;intro v9 w9 hown9 hbel9 hg9 hv9;obtain ⟨A9,c9,rfl,_,_,_⟩:=own_slice hown9 (by omega);have ON:=LH (ArRow.snoc HAR.out BE.out HS8.out (by rw [HKL.out];exact hown9) hg9 hv9);have B9:=LH ((BE.out.mono hwl).trans hbel9);have K9:=LH ((B9.out.block w1.heap.size hwlb).trans KW.out);obtain ⟨⟨q0,q1,q2,q3⟩,k0,k1,k2,k3⟩:=four K9.out;clear hown9 hbel9 hg9 hv9 HA8 HN8 HS8 hb8)
           go_roundw
           case rel=>exact ⟨k+1,by omega,by go_num,_,_,_,SwJ.step HJ.out B9.out (by rw [HTK.out];exact ON.out)⟩
           case measure=>simp [intOf];omega
           )
         ·by_cases hm:y = [40,110,41]∨y = [40,110,110,41]
          ·have e1:argRw x y=⟨[],[],false,true,x⟩:=by unfold argRw;rw [if_neg hn,if_pos hm]
           rw [e1] at HTK
           clear e1 hn
           rcases hm with rfl | rfl
           all_goals (
            obtain ⟨ob,hob⟩:∃ o,o=Obj.cells #[Sn,Sn,Bf,Bt,Sx x.op,.int .u16 x.n,Sx x.name,.slice xA x.sub.length xc] 36 (0,0):=⟨_,rfl⟩
            have BE:=LH (bra wr ob)
            have HA8:=LH (HAR.out.bel BE.out).2.1
            rw [HKL.out] at HA8
            have HN8:Hid (Rd (wr.alloc ob) (wr.heap.size+1) (.slice (some ⟨wr.heap.size,0,none⟩) 1 1) 1 (arCells ⟨[],[],false,true,x⟩ (.slice xA x.sub.length xc))):=LH (by rw [hob];exact rd_new wr wr.heap.size rfl (arCells ⟨[],[],false,true,x⟩ (.slice xA x.sub.length xc)) 36)
            have HS8:Hid (SubAt (wr.alloc ob) (fun g=>(g<(wr.alloc ob).heap.size/\(Value.slice vA k vc).ownBlock≠some g)/\g≠w1.heap.size) (.slice xA x.sub.length xc) x.sub):=LH (SX.out.keep (fun p hp=>BE.out.cell (Nat.lt_of_lt_of_le hp.1 hwl)) (fun g hg=>⟨⟨Nat.lt_of_lt_of_le hg.1 (Nat.le_trans hwl BE.out.size),fun hh=>by have:=(HROW.out.lt g hh).1;have h9:=hg.1;omega⟩,hg.2⟩))
            have hb8:wl.heap.size<=(wr.alloc ob).heap.size:=Nat.le_trans hwl BE.out.size
            go_wp2_with (at_builtin;rw [← hob];refine wpList_append_to _ rfl (.tmp 167) (.tmp 170) 22 rfl wl.heap.size 36 _ 8 104 Tryz.underlying22 info_ar rfl (by omega) HA8.out rfl HN8.out rfl rfl (arCells_one ⟨[],[],false,true,x⟩ _ rfl) (by omega) (by omega) hb8 ?_;intro v9 w9 hown9 hbel9 hg9 hv9;obtain ⟨A9,c9,rfl,_,_,_⟩:=own_slice hown9 (by omega);have ON:=LH (ArRow.snoc HAR.out BE.out HS8.out (by rw [HKL.out];exact hown9) hg9 hv9);have B9:=LH ((BE.out.mono hwl).trans hbel9);have K9:=LH ((B9.out.block w1.heap.size hwlb).trans KW.out);obtain ⟨⟨q0,q1,q2,q3⟩,k0,k1,k2,k3⟩:=four K9.out;clear hown9 hbel9 hg9 hv9 HA8 HN8 HS8 hb8)
            go_roundw
            case rel=>exact ⟨k+1,by omega,by go_num,_,_,_,SwJ.step HJ.out B9.out (by rw [HTK.out];exact ON.out)⟩
            case measure=>simp [intOf];omega
            )
          ·have e1:argRw x y=⟨y,[],false,false,ex0⟩:=by unfold argRw;rw [if_neg hn,if_neg hm]
           have q1:=str_ne (fun h=>hn (.inl h))
           have q2:=str_ne (fun h=>hn (.inr h))
           have q3:=str_ne (fun h=>hm (.inl h))
           have q4:=str_ne (fun h=>hm (.inr h))
           rw [e1] at HTK
           clear e1 hn hm
           have BE:=LH ((Below.refl wr.heap.size wr).drew.alloc (Nat.le_refl _) (.cells #[Sx y,Sn,Bf,Bf,Sn,.int .u16 0,Sn,Zs] 36))
           have HA8:=LH (HAR.out.bel BE.out).2.1
           rw [HKL.out] at HA8
           have HN8:Hid (Rd (wr.drew.alloc (.cells #[Sx y,Sn,Bf,Bf,Sn,.int .u16 0,Sn,Zs] 36)) (wr.heap.size+1) (.slice (some ⟨wr.heap.size,0,none⟩) 1 1) 1 (arCells ⟨y,[],false,false,ex0⟩ (Zs))):=LH (rd_new wr.drew wr.heap.size rfl (arCells ⟨y,[],false,false,ex0⟩ (Zs)) 36)
           have HS8:Hid (SubAt (wr.drew.alloc (.cells #[Sx y,Sn,Bf,Bf,Sn,.int .u16 0,Sn,Zs] 36)) (fun g=>(g<(wr.drew.alloc (.cells #[Sx y,Sn,Bf,Bf,Sn,.int .u16 0,Sn,Zs] 36)).heap.size/\(Value.slice vA k vc).ownBlock≠some g)/\g≠w1.heap.size) (Zs) (Ar.e ⟨y,[],false,false,ex0⟩).sub):=LH (SubAt.nil _ _)
           have hb8:wl.heap.size<=(wr.drew.alloc (.cells #[Sx y,Sn,Bf,Bf,Sn,.int .u16 0,Sn,Zs] 36)).heap.size:=Nat.le_trans hwl BE.out.size
           go_wp2_with fail
           go_region_law (refine step_append_sw rfl (.tmp 144) (.tmp 150) 22 rfl wl.heap.size 36 _ 8 104 Tryz.underlying22 info_ar rfl (by omega) HA8.out rfl HN8.out rfl rfl (arCells_one ⟨y,[],false,false,ex0⟩ _ rfl) (by omega) (by omega) hb8 ?_;intro v9 w9 hown9 hbel9 hg9 hv9;obtain ⟨A9,c9,rfl,_,_,_⟩:=own_slice hown9 (by omega);have ON:=LH (ArRow.snoc HAR.out BE.out HS8.out (by rw [HKL.out];exact hown9) hg9 hv9);have B9:=LH ((BE.out.mono hwl).trans hbel9);have K9:=LH ((B9.out.block w1.heap.size hwlb).trans KW.out);obtain ⟨⟨q0,q1,q2,q3⟩,k0,k1,k2,k3⟩:=four K9.out;clear hown9 hbel9 hg9 hv9)
           all_goals (
            go_wp2_with fail
            go_roundw
            case rel=>exact ⟨k+1,by omega,by go_num,_,_,_,SwJ.step HJ.out B9.out (by rw [HTK.out];exact ON.out)⟩
            case measure=>simp [intOf];omega)
        ·obtain rfl:k=ws.length:=by omega
         have HFIN:=LH ((HAR.out.arAt (fun g hg=>by omega)).offS Q1.out)
         rw [List.take_length] at HFIN
         obtain ⟨⟨z0,z1,z2,z3⟩,g0,g1,g2,g3⟩:=four Q1.out
         have i2:¬ (ws.length:Int)<(ws.length:Int):=by omega
         have d3:decide ((ws.length:Int)<(ws.length:Int))=false:=by simp
         clear hlt HAR HCK SX HJ HJ0 c0 c1 c2 c3
         go_wp2_with fail
         refine bodyPost_ret (v:=.tuple #[.agg #[Sx lab,.bool s.colon,Sx zn,.slice vA ws.length vc],.int .i64 0]) (by simp [results,Tryz.results7,go_sem,z0,z1,z2,z3]) rfl ?_
         rw [HX.out]
         refine ⟨.slice vA ws.length vc,rfl,?_,(((BW.out.setCell (Nat.le_succ _) _).setCell (Nat.le_succ _) _).setCell (Nat.le_succ _) _).setCell (Nat.le_succ _) _⟩
         exact ((((HFIN.out.putOff (fun g hgg=>hgg.2) 0 _).putOff (fun g hgg=>hgg.2) 1 _).putOff (fun g hgg=>hgg.2) 2 _).putOff (fun g hgg=>hgg.2) 3 _).more (fun g hgg=>by simpa using hgg.1.1)
end Go.Proofs.YtijgppokofganaaGreatDoor
