/- Xe. -/
import Derived.Test.YtbdnbfacalfciaaGreatDoorXd
namespace Go.Proofs.YtbdnbfacalfciaaGreatDoor
set_option maxRecDepth 100000
set_option maxHeartbeats 16000000
open Go.RowKit
@[go_sem] theorem run_store_fn {P:Program} {w:World} {a:Addr} {m:Mode} (f:Fn) (x y:Array Value):(store a (.func f x y) m).run P w=stored P w a (.func f x y) m:=run_store P w a _ m rfl
@[go_sem] theorem run_store_nilfn {P:Program} {w:World} {a:Addr} {m:Mode}:(store a .nilFunc m).run P w=stored P w a .nilFunc m:=run_store P w a _ m rfl
def CodeAt (w0 w1:World) (c:Cd) (u:Value):Prop:=∃ (K:FuncId) (caps:Array Value),u=.agg #[.int .i64 (c.size:Nat),.int .i64 (eI c.e),.func (.func K) #[] caps]/\(∀ args W,(callFunc K args).run Tryz.prog W=.ok (.enter K args) W) /\
 ∀ (W:World) (pl v:Nat),(∀ k,w0.heap.size<=k->k<w1.heap.size->W.heap[k]? = w1.heap[k]?)->w1.heap.size<=W.heap.size->v<=65535->Calls Tryz.prog K (#[.int .i64 (pl:Nat),.int .u16 (v:Nat)]++caps) W (BytsR (c.bytes pl v ([],false)).1 W)
def FindR (fd:Option Cd) (w:World) (e:Ending) (w':World):Prop:=Below w.heap.size w w'/\∃ u,e=.returned (.tuple #[u,.bool fd.isSome])/\(∃ (a b:Int) (f:Value),u=.agg #[.int .i64 a,.int .i64 b,f]/\(f=.nilFunc ∨ ∃ K c,f=.func K #[] c))/\∀ c,fd=some c->CodeAt w w' c u
theorem rst_enter (args:Array Value) (W:World):(callFunc 300 args).run Tryz.prog W=.ok (.enter 300 args) W:=enters_of Tryz.func300 (by kernel_rfl) rfl args W
theorem find1_enter (args:Array Value) (W:World):(callFunc 303 args).run Tryz.prog W=.ok (.enter 303 args) W:=enters_of Tryz.func303 (by kernel_rfl) rfl args W
theorem three_of {w:World} {h:Nat} {c0 c1 c2:Value} {T:TypeId} (hh:w.heap[h]? = some (.cells #[c0,c1,c2] T (0,0))) :
  w.cell? ⟨h,0,none⟩=some c0/\w.cell? ⟨h,1,none⟩=some c1/\w.cell? ⟨h,2,none⟩=some c2/\w.frozen? ⟨h,0,none⟩=false/\w.frozen? ⟨h,1,none⟩=false/\w.frozen? ⟨h,2,none⟩=false:=
 ⟨coh hh,coh hh,coh hh,foh hh,foh hh,foh hh⟩
theorem three_set {w:World} {h:Nat} {c0 c1 c2:Value} {T:TypeId} (u0 u1 u2:Value) (hh:w.heap[h]? = some (.cells #[c0,c1,c2] T (0,0))) :
  (((w.setCell ⟨h,0,none⟩ u0).setCell ⟨h,1,none⟩ u1).setCell ⟨h,2,none⟩ u2).cell? ⟨h,0,none⟩=some u0/\(((w.setCell ⟨h,0,none⟩ u0).setCell ⟨h,1,none⟩ u1).setCell ⟨h,2,none⟩ u2).cell? ⟨h,1,none⟩=some u1/\(((w.setCell ⟨h,0,none⟩ u0).setCell ⟨h,1,none⟩ u1).setCell ⟨h,2,none⟩ u2).cell? ⟨h,2,none⟩=some u2:=by
 have h1:=heap_set u0 (i:=0) hh
 have h2:=heap_set u1 (i:=1) h1
 have h3:=heap_set u2 (i:=2) h2
 exact ⟨coh h3,coh h3,coh h3⟩
theorem tongue_rst (s:St) (v:Value) (i:Int) (w:World) (hs:ArAt w (· < w.heap.size) v s.args) (hop:s.op=sRST) :
  Calls Tryz.prog 299 #[.agg #[],stV s v,.int .i64 i] w (FindR (fd80 ([],false) s 0) w):=by
 obtain ⟨A,c,rfl,hc,_⟩:=hs.form
 have HS:=LH hs
 have HFD:Hid (fd80 ([],false) s 0=if s.args.length=1/\plainA (s.args.getD 0 ar0) then some ⟨1,some 0,fun _ v t=>(rst80A v,t)⟩ else none):=LH (by unfold fd80;rw [if_pos hop])
 obtain ⟨lab,colon,op,args⟩:=s
 simp only at hop
 subst hop
 by_cases h1:args.length=1
 ·have e1:((args.length:Int) == 1)=true:=by rw [beq_iff_eq];omega
  obtain ⟨g,o,sv,rfl,hg,c0,c1,c2,c3,c4,c5,c6,c7,hsub⟩:=HS.out.get 0 (by show 0<args.length;omega)
  obtain ⟨SA,sc,rfl,_,_⟩:=hsub.form
  have hget:args.getD 0 ar0=args[0]:=by simp [List.getD_eq_getElem?_getD,h1]
  rw [hget] at HFD
  have hg2:g<w.heap.size:=hg
  clear hs hsub hg
  have HP:=LH (fun W=>plainA_any args[0] (.slice SA args[0].e.sub.length sc) W)
  have i1:(0:Int)<(args.length:Int):=by omega
  simp only [Nat.zero_mul,Nat.add_zero] at c0 c1 c2 c3 c4 c5 c6 c7
  have B3:=LH ((((Below.refl w.heap.size w).alloc (Nat.le_refl _) (.cells #[] 99)).alloc (by simp) (.cells #[.string ⟨lab.toArray⟩,.bool colon,.string ⟨#[82,83,84]⟩,.slice (some ⟨g,o,none⟩) args.length c] 63)).alloc (by simp;omega) (.cells #[.int .i64 0,.int .i64 0,.nilFunc] 288))
  have hh:=fun (j:Nat)=>B3.out.cell (p:=⟨g,o+j,none⟩) hg2
  rw [← (B3.out.cell (p:=⟨g,o,none⟩) hg2)] at c0
  rw [← hh 1] at c1
  rw [← hh 2] at c2
  rw [← hh 3] at c3
  rw [← hh 4] at c4
  rw [← hh 5] at c5
  rw [← hh 6] at c6
  rw [← hh 7] at c7
  have HPV:=LH (fun (h:plainA args[0]=true)=>HFD.out.trans (if_pos ⟨h1,h⟩))
  have HPN:=LH (fun (h:plainA args[0]=false)=>HFD.out.trans (if_neg (fun hh=>by rw [h] at hh;exact absurd hh.2 (by simp))))
  clear hh HFD
  have HL1:=LH h1
  generalize args[0]=x at *
  clear h1
  have o3:=heap_alloc_new ((w.alloc (.cells #[] 99)).alloc (.cells #[.string ⟨lab.toArray⟩,.bool colon,.string ⟨#[82,83,84]⟩,.slice (some ⟨g,o,none⟩) args.length c] 63)) (.cells #[.int .i64 0,.int .i64 0,.nilFunc] 288)
  rw [show ((w.alloc (.cells #[] 99)).alloc (.cells #[.string ⟨lab.toArray⟩,.bool colon,.string ⟨#[82,83,84]⟩,.slice (some ⟨g,o,none⟩) args.length c] 63)).heap.size=w.heap.size+1+1 by simp] at o3
  have O3:=LH o3
  clear o3
  cases hp:plainA x with
  | true=>
   rw [hp] at HP
   have HV:=LH (HPV.out hp)
   clear HPV HPN
   go_enter Tryz.func299, Tryz.ntmps299
   go_wp2_with fail
   refine (HP.out _).mono ?_
   rintro e w2 ⟨rfl,hb2⟩
   have O4:=LH ((hb2.block (w.heap.size+1+1) (by simp)).trans O3.out)
   have B4:=LH (bthen B3.out hb2)
   obtain ⟨m0,m1,m2,f0,f1,f2⟩:=three_of O4.out
   obtain ⟨q0,q1,q2⟩:=three_set (.int .i64 1) (.int .i64 0) (.func (.func 300) #[] #[]) O4.out
   have Q:=LH (And.intro q0 (And.intro q1 q2))
   clear q0 q1 q2 O3 HP hb2 c0 c1 c2 c3 c4 c5 c6 c7
   have B5:=LH (((B4.out.setCell (p:=⟨w.heap.size+1+1,0,none⟩) (by show w.heap.size<=w.heap.size+1+1;omega) (.int .i64 1)).setCell (p:=⟨w.heap.size+1+1,1,none⟩) (by show w.heap.size<=w.heap.size+1+1;omega) (.int .i64 0)).setCell (p:=⟨w.heap.size+1+1,2,none⟩) (by show w.heap.size<=w.heap.size+1+1;omega) (.func (.func 300) #[] #[]))
   go_wp2_with fail
   obtain ⟨q0,q1,q2⟩:=Q.out
   refine bodyPost_ret (v:=.tuple #[.agg #[.int .i64 1,.int .i64 0,.func (.func 300) #[] #[]],.bool true]) (by simp [results,Tryz.results299,go_sem,q0,q1,q2]) rfl ?_
   rw [HV.out]
   refine ⟨B5.out,_,rfl,⟨1,0,_,rfl,.inr ⟨_,_,rfl⟩⟩,fun c hc=>?_⟩
   injection hc with hc
   rw [← hc]
   exact ⟨300,#[],rfl,rst_enter,fun W pl v _ _ hv=>rst80_any (pl:Int) v hv W⟩
  | false=>
   rw [hp] at HP
   have HV:=LH (HPN.out hp)
   clear HPV HPN
   go_enter Tryz.func299, Tryz.ntmps299
   go_wp2_with fail
   refine (HP.out _).mono ?_
   rintro e w2 ⟨rfl,hb2⟩
   have O4:=LH ((hb2.block (w.heap.size+1+1) (by simp)).trans O3.out)
   have B4:=LH (bthen B3.out hb2)
   obtain ⟨m0,m1,m2,f0,f1,f2⟩:=three_of O4.out
   obtain ⟨q0,q1,q2⟩:=three_set (.int .i64 1) (.int .i64 0) (.func (.func 300) #[] #[]) O4.out
   have Q:=LH (And.intro q0 (And.intro q1 q2))
   clear q0 q1 q2 O3 HP hb2 c0 c1 c2 c3 c4 c5 c6 c7
   have B5:=LH (((B4.out.setCell (p:=⟨w.heap.size+1+1,0,none⟩) (by show w.heap.size<=w.heap.size+1+1;omega) (.int .i64 1)).setCell (p:=⟨w.heap.size+1+1,1,none⟩) (by show w.heap.size<=w.heap.size+1+1;omega) (.int .i64 0)).setCell (p:=⟨w.heap.size+1+1,2,none⟩) (by show w.heap.size<=w.heap.size+1+1;omega) (.func (.func 300) #[] #[]))
   go_wp2_with fail
   obtain ⟨q0,q1,q2⟩:=Q.out
   refine bodyPost_ret (v:=.tuple #[.agg #[.int .i64 1,.int .i64 0,.func (.func 300) #[] #[]],.bool false]) (by simp [results,Tryz.results299,go_sem,q0,q1,q2]) rfl ?_
   rw [HV.out]
   exact ⟨B5.out,_,rfl,⟨1,0,_,rfl,.inr ⟨_,_,rfl⟩⟩,fun c hc=>by cases hc⟩
 ·have e1:((args.length:Int) == 1)=false:=by rw [beq_eq_false_iff_ne];omega
  rw [if_neg (fun h=>h1 h.1)] at HFD
  clear hs
  have B3:=LH ((((Below.refl w.heap.size w).alloc (Nat.le_refl _) (.cells #[] 99)).alloc (by simp) (.cells #[.string ⟨lab.toArray⟩,.bool colon,.string ⟨#[82,83,84]⟩,.slice A args.length c] 63)).alloc (by simp;omega) (.cells #[.int .i64 1,.int .i64 0,.func (.func 300) #[] #[]] 288))
  go_enter Tryz.func299, Tryz.ntmps299
  go_wp2_with fail
  refine bodyPost_ret (v:=.tuple #[.agg #[.int .i64 1,.int .i64 0,.func (.func 300) #[] #[]],.bool false]) (by simp [results,Tryz.results299,go_sem]) rfl ?_
  rw [HFD.out]
  exact ⟨B3.out,_,rfl,⟨1,0,_,rfl,.inr ⟨_,_,rfl⟩⟩,fun c hc=>by cases hc⟩
theorem fd80_no (s:St) (h:s.op≠sRST) (h3:∀ j,j<3->try80 s j=none):fd80 ([],false) s 0=none:=by
 unfold fd80
 rw [if_neg h,h3 0 (by decide),h3 1 (by decide)]
 exact h3 2 (by decide)
theorem fd80_yes (s:St) (h:s.op≠sRST) (k:Nat) (hk:k<3) (hno:∀ j,j<k->try80 s j=none) (c:Cd) (hc:try80 s k=some c):fd80 ([],false) s 0=some c:=by
 unfold fd80
 rw [if_neg h]
 have h3:k=0∨k=1∨k=2:=by omega
 rcases h3 with rfl | rfl | rfl
 ·rw [hc]
 ·rw [hno 0 (by decide),hc]
 ·rw [hno 0 (by decide),hno 1 (by decide),hc]
theorem find80_lt {name:List UInt8} {ws:List (List UInt8)} {op:Nat} (h:find80 name ws=some op):op<256:=by
 unfold find80 at h
 exact List.mem_range.1 (List.mem_of_find?_eq_some h)
theorem keep3 {w:World} (h x:Nat) (u0 u1 u2:Value) (hx:x≠h):(((w.setCell ⟨h,0,none⟩ u0).setCell ⟨h,1,none⟩ u1).setCell ⟨h,2,none⟩ u2).heap[x]? = w.heap[x]?:=
 (Below.heap_setCell _ _ _ x hx).trans ((Below.heap_setCell _ _ _ x hx).trans (Below.heap_setCell _ _ _ x hx))
theorem tongue_any (s:St) (v:Value) (i:Int) (w:World) (hs:ArAt w (· < w.heap.size) v s.args) (hl:s.args.length<=1000) (hop:s.op≠sRST) :
  Calls Tryz.prog 299 #[.agg #[],stV s v,.int .i64 i] w (FindR (fd80 ([],false) s 0) w):=by
 obtain ⟨A,c,rfl,hc,_⟩:=hs.form
 have HNO:=LH (fd80_no s hop)
 have HYES:=LH (fd80_yes s hop)
 have HF:=LH (fun num W (hW:Below w.heap.size w W)=>form80_any' num s.args _ W (hs.at hW hW.size) hl)
 have HN:=LH (fun num u W (hr:RdS W W.heap.size u (form80 num s.args))=>find80_any s.op (form80 num s.args) u W hr (by unfold form80;rw [List.length_map];exact hl))
 have HLT:=LH (fun num op (h:find80 s.op (form80 num s.args)=some op)=>find80_lt h)
 have HT:Hid (∀ k,try80 s k=match find80 s.op (form80 (num80 k) s.args) with
   | some op=>if (0<k)=((lastA s.args 0 none).isSome=true) then some ⟨k+1,lastA s.args 0 none,fun _ v t=>(opA80 op k v,t)⟩ else none
   | none=>none):=LH (fun k=>rfl)
 have e0:(s.op == sRST)=false:=str_ne hop
 obtain ⟨lab,colon,op,args⟩:=s
 have B3:=LH ((((Below.refl w.heap.size w).alloc (Nat.le_refl _) (.cells #[] 99)).alloc (by simp) (.cells #[.string ⟨lab.toArray⟩,.bool colon,.string ⟨op.toArray⟩,.slice A args.length c] 63)).alloc (by simp;omega) (.cells #[.int .i64 0,.int .i64 0,.nilFunc] 288))
 have o2:=heap_alloc_new ((w.alloc (.cells #[] 99)).alloc (.cells #[.string ⟨lab.toArray⟩,.bool colon,.string ⟨op.toArray⟩,.slice A args.length c] 63)) (.cells #[.int .i64 0,.int .i64 0,.nilFunc] 288)
 have o0:=heap_alloc_new (w.alloc (.cells #[] 99)) (.cells #[.string ⟨lab.toArray⟩,.bool colon,.string ⟨op.toArray⟩,.slice A args.length c] 63)
 rw [show (w.alloc (.cells #[] 99)).heap.size=w.heap.size+1 by simp] at o0
 have o1:=(Below.heap_alloc ((w.alloc (.cells #[] 99)).alloc (.cells #[.string ⟨lab.toArray⟩,.bool colon,.string ⟨op.toArray⟩,.slice A args.length c] 63)) (.cells #[.int .i64 0,.int .i64 0,.nilFunc] 288) (w.heap.size+1) (by simp)).trans o0
 rw [show ((w.alloc (.cells #[] 99)).alloc (.cells #[.string ⟨lab.toArray⟩,.bool colon,.string ⟨op.toArray⟩,.slice A args.length c] 63)).heap.size=w.heap.size+1+1 by simp] at o2
 have O1:=LH o1
 have O2:=LH o2
 clear o0 o1 o2 hs hop
 simp only at e0 HF HN HLT HT
 go_enter Tryz.func299, Tryz.ntmps299
 go_wp2_with fail
 go_loopw [30] (fun i wr=>∃ k:Nat,k<=3/\i=.int .i64 k/\Below w.heap.size w wr/\wr.heap[w.heap.size+1]? = some (.cells #[.string ⟨lab.toArray⟩,.bool colon,.string ⟨op.toArray⟩,.slice A args.length c] 63 (0,0))/\wr.heap[w.heap.size+1+1]? = some (.cells #[.int .i64 0,.int .i64 0,.nilFunc] 288 (0,0))/\Hid (∀ j,j<k->try80 ⟨lab,colon,op,args⟩ j=none)) (fun i _=>3 - (intOf i).toNat)
 case atStart=>exact ⟨0,by decide,rfl,B3.out,O1.out,O2.out,LH (fun j hj=>by omega)⟩
 case round=>
  obtain ⟨k,hk,rfl,hbw,p1,p2,hno⟩:=hrel
  have BW:=LH hbw
  have P1:=LH p1
  have P2:=LH p2
  clear hbw p1 p2 B3 O1 O2
  have hk4:k=0∨k=1∨k=2∨k=3:=by omega
  rcases hk4 with rfl | rfl | rfl | rfl
  ·have T1:=LH (HT.out 0)
   have F1:=LH (HF.out (num80 0))
   have N1:=LH (HN.out (num80 0))
   have L1:=LH (HLT.out (num80 0))
   have PA:=LH ((Below.heap_alloc wr (.cells #[.int .i64 0] 3) (w.heap.size+1) (loh P1.out)).trans P1.out)
   have BA:=LH (BW.out.alloc BW.out.size (.cells #[.int .i64 0] 3))
   have SA:=LH (heap_alloc_new wr (.cells #[.int .i64 0] 3))
   have k3:(wr.alloc (.cells #[.int .i64 0] 3)).cell? ⟨w.heap.size+1,3,none⟩=some (.slice A args.length c):=coh PA.out
   clear HF HN HLT HT
   generalize form80 (num80 0) args=ws at *
   generalize lastA args 0 none=ea at *
   generalize find80 op ws=fo at *
   have hix:∀ W,(Instr.index 388 (.agg #[.string ⟨#[]⟩,.string ⟨#[100,56]⟩,.string ⟨#[100,49,54]⟩]) (.int .i64 0)).run Tryz.prog W=.ok (.string ⟨#[]⟩) W:=fun W=>by kernel_rfl
   go_wp2_with fail
   refine (F1.out _ BA.out).mono ?_
   rintro e w1 ⟨u,rfl,hr1,hb1⟩
   have B1:=LH (bthen BA.out hb1)
   have S1:=LH ((hb1.block wr.heap.size (by simp)).trans SA.out)
   have PB:=LH ((hb1.block (w.heap.size+1) (by have:=loh P1.out;simp;omega)).trans PA.out)
   have k2:w1.cell? ⟨w.heap.size+1,2,none⟩=some (.string ⟨op.toArray⟩):=coh PB.out
   have R1:=LH hr1
   obtain ⟨U,uc,rfl,_⟩:=R1.out.form
   have Z1:=LH (bthen ((Below.refl wr.heap.size wr).alloc (Nat.le_refl _) (.cells #[.int .i64 0] 3)) hb1)
   clear hr1 hb1 F1 BA SA PA k3
   cases fo with
   | none=>
    have HN2:Hid (∀ j,j<0+1->try80 ⟨lab,colon,op,args⟩ j=none):=LH (fun j hj=>by
     by_cases hjk:j=0
     ·rw [hjk];exact T1.out
     ·exact hno.out j (by omega))
    clear hno T1 L1
    go_wp2_with fail
    refine (N1.out _ _ R1.out).mono ?_
    rintro e w2 ⟨rfl,hb2⟩
    have Z2:=LH ((bthen Z1.out hb2).alloc (bthen Z1.out hb2).size (.cells #[.int .u8 0] 5))
    have S2:=LH ((Below.heap_alloc w2 (.cells #[.int .u8 0] 5) wr.heap.size (Nat.lt_of_lt_of_le (loh S1.out) hb2.size)).trans ((hb2.block wr.heap.size (loh S1.out)).trans S1.out))
    have BX:=LH (bthen BW.out Z2.out)
    have X1:=LH ((Z2.out.block _ (loh P1.out)).trans P1.out)
    have X2:=LH ((Z2.out.block _ (loh P2.out)).trans P2.out)
    clear hb2 R1 N1 Z1 Z2 S1 PB B1 k2
    unfold findP
    go_wp2_with fail
    go_roundw
    case rel=>exact ⟨0+1,by omega,by go_num,BX.out,X1.out,X2.out,HN2.out⟩
    case measure=>simp [intOf]
   | some op'=>
    cases ea with
    | none=>
     have HV:=LH (HYES.out 0 (by decide) hno.out _ (T1.out.trans (if_pos (by simp))))
     have hol:=L1.out op' rfl
     clear hno T1 L1
     go_wp2_with fail
     refine (N1.out _ _ R1.out).mono ?_
     rintro e w2 ⟨rfl,hb2⟩
     have Z2:=LH ((bthen Z1.out hb2).alloc (bthen Z1.out hb2).size (.cells #[.int .u8 op'] 5))
     have S2:=LH ((Below.heap_alloc w2 (.cells #[.int .u8 op'] 5) wr.heap.size (Nat.lt_of_lt_of_le (loh S1.out) hb2.size)).trans ((hb2.block wr.heap.size (loh S1.out)).trans S1.out))
     have D2:=LH (heap_alloc_new w2 (.cells #[.int .u8 op'] 5))
     have BX:=LH (bthen BW.out Z2.out)
     have X1:=LH ((Z2.out.block _ (loh P1.out)).trans P1.out)
     have X2:=LH ((Z2.out.block _ (loh P2.out)).trans P2.out)
     have ks:(w2.alloc (.cells #[.int .u8 op'] 5)).cell? ⟨wr.heap.size,0,none⟩=some (.int .i64 0):=coh S2.out
     have hlt2:wr.heap.size<w2.heap.size:=Nat.lt_of_lt_of_le (loh S1.out) hb2.size
     have hcb:w.heap.size+1+1<wr.heap.size:=loh P2.out
     clear hb2 R1 N1 Z1 Z2 S1 PB B1 k2
     unfold findP
     obtain ⟨m0,m1,m2,f0,f1,f2⟩:=three_of X2.out
     obtain ⟨q0,q1,q2⟩:=three_set (.int .i64 1) (.int .i64 (eI none)) (.func (.func 303) #[] #[.pointer (some ⟨w2.heap.size,0,none⟩),.pointer (some ⟨wr.heap.size,0,none⟩)]) X2.out
     have Q:=LH (And.intro q0 (And.intro q1 q2))
     have B5:=LH (((BX.out.setCell (p:=⟨w.heap.size+1+1,0,none⟩) (by show w.heap.size<=w.heap.size+1+1;omega) (.int .i64 1)).setCell (p:=⟨w.heap.size+1+1,1,none⟩) (by show w.heap.size<=w.heap.size+1+1;omega) (.int .i64 (eI none))).setCell (p:=⟨w.heap.size+1+1,2,none⟩) (by show w.heap.size<=w.heap.size+1+1;omega) (.func (.func 303) #[] #[.pointer (some ⟨w2.heap.size,0,none⟩),.pointer (some ⟨wr.heap.size,0,none⟩)]))
     clear q0 q1 q2
     go_wp2_with fail
     obtain ⟨q0,q1,q2⟩:=Q.out
     refine bodyPost_ret (v:=.tuple #[.agg #[.int .i64 1,.int .i64 (eI none),(.func (.func 303) #[] #[.pointer (some ⟨w2.heap.size,0,none⟩),.pointer (some ⟨wr.heap.size,0,none⟩)])],.bool true]) (by simp [results,Tryz.results299,go_sem,q0,q1,q2]) rfl ?_
     rw [HV.out]
     refine ⟨B5.out,_,rfl,⟨_,_,_,rfl,.inr ⟨_,_,rfl⟩⟩,fun c hc=>?_⟩
     injection hc with hc
     rw [← hc]
     refine ⟨303,_,rfl,find1_enter,fun W pl v hW hsz hv=>?_⟩
     have a1:W.cell? ⟨w2.heap.size,0,none⟩=some (.int .u8 op'):=coh ((hW w2.heap.size (by omega) (by simp)).trans ((keep3 _ _ _ _ _ (by omega)).trans D2.out))
     have a2:W.cell? ⟨wr.heap.size,0,none⟩=some (.int .i64 0):=coh ((hW wr.heap.size (by omega) (by simp;omega)).trans ((keep3 _ _ _ _ _ (by omega)).trans S2.out))
     exact find1_any op' 0 v hol (by decide) hv (pl:Int) _ _ W a1 a2
    | some e0=>
     have g1:decide ((e0:Int)<0)=false:=by simp
     have g2:(0:Int)<=(e0:Int):=by omega
     have HN2:Hid (∀ j,j<0+1->try80 ⟨lab,colon,op,args⟩ j=none):=LH (fun j hj=>by
      by_cases hjk:j=0
      ·rw [hjk];exact T1.out.trans (if_neg (by simp))
      ·exact hno.out j (by omega))
     clear hno T1 L1
     go_wp2_with fail
     refine (N1.out _ _ R1.out).mono ?_
     rintro e w2 ⟨rfl,hb2⟩
     have Z2:=LH ((bthen Z1.out hb2).alloc (bthen Z1.out hb2).size (.cells #[.int .u8 op'] 5))
     have S2:=LH ((Below.heap_alloc w2 (.cells #[.int .u8 op'] 5) wr.heap.size (Nat.lt_of_lt_of_le (loh S1.out) hb2.size)).trans ((hb2.block wr.heap.size (loh S1.out)).trans S1.out))
     have D2:=LH (heap_alloc_new w2 (.cells #[.int .u8 op'] 5))
     have BX:=LH (bthen BW.out Z2.out)
     have X1:=LH ((Z2.out.block _ (loh P1.out)).trans P1.out)
     have X2:=LH ((Z2.out.block _ (loh P2.out)).trans P2.out)
     have ks:(w2.alloc (.cells #[.int .u8 op'] 5)).cell? ⟨wr.heap.size,0,none⟩=some (.int .i64 0):=coh S2.out
     have hlt2:wr.heap.size<w2.heap.size:=Nat.lt_of_lt_of_le (loh S1.out) hb2.size
     have hcb:w.heap.size+1+1<wr.heap.size:=loh P2.out
     clear hb2 R1 N1 Z1 Z2 S1 PB B1 k2
     unfold findP
     go_wp2_with fail
     go_roundw
     case rel=>exact ⟨0+1,by omega,by go_num,BX.out,X1.out,X2.out,HN2.out⟩
     case measure=>simp [intOf]
  ·have T1:=LH (HT.out 1)
   have F1:=LH (HF.out (num80 1))
   have N1:=LH (HN.out (num80 1))
   have L1:=LH (HLT.out (num80 1))
   have PA:=LH ((Below.heap_alloc wr (.cells #[.int .i64 1] 3) (w.heap.size+1) (loh P1.out)).trans P1.out)
   have BA:=LH (BW.out.alloc BW.out.size (.cells #[.int .i64 1] 3))
   have SA:=LH (heap_alloc_new wr (.cells #[.int .i64 1] 3))
   have k3:(wr.alloc (.cells #[.int .i64 1] 3)).cell? ⟨w.heap.size+1,3,none⟩=some (.slice A args.length c):=coh PA.out
   clear HF HN HLT HT
   generalize form80 (num80 1) args=ws at *
   generalize lastA args 0 none=ea at *
   generalize find80 op ws=fo at *
   have hix:∀ W,(Instr.index 388 (.agg #[.string ⟨#[]⟩,.string ⟨#[100,56]⟩,.string ⟨#[100,49,54]⟩]) (.int .i64 1)).run Tryz.prog W=.ok (.string ⟨#[100,56]⟩) W:=fun W=>by kernel_rfl
   go_wp2_with fail
   refine (F1.out _ BA.out).mono ?_
   rintro e w1 ⟨u,rfl,hr1,hb1⟩
   have B1:=LH (bthen BA.out hb1)
   have S1:=LH ((hb1.block wr.heap.size (by simp)).trans SA.out)
   have PB:=LH ((hb1.block (w.heap.size+1) (by have:=loh P1.out;simp;omega)).trans PA.out)
   have k2:w1.cell? ⟨w.heap.size+1,2,none⟩=some (.string ⟨op.toArray⟩):=coh PB.out
   have R1:=LH hr1
   obtain ⟨U,uc,rfl,_⟩:=R1.out.form
   have Z1:=LH (bthen ((Below.refl wr.heap.size wr).alloc (Nat.le_refl _) (.cells #[.int .i64 1] 3)) hb1)
   clear hr1 hb1 F1 BA SA PA k3
   cases fo with
   | none=>
    have HN2:Hid (∀ j,j<1+1->try80 ⟨lab,colon,op,args⟩ j=none):=LH (fun j hj=>by
     by_cases hjk:j=1
     ·rw [hjk];exact T1.out
     ·exact hno.out j (by omega))
    clear hno T1 L1
    go_wp2_with fail
    refine (N1.out _ _ R1.out).mono ?_
    rintro e w2 ⟨rfl,hb2⟩
    have Z2:=LH ((bthen Z1.out hb2).alloc (bthen Z1.out hb2).size (.cells #[.int .u8 0] 5))
    have S2:=LH ((Below.heap_alloc w2 (.cells #[.int .u8 0] 5) wr.heap.size (Nat.lt_of_lt_of_le (loh S1.out) hb2.size)).trans ((hb2.block wr.heap.size (loh S1.out)).trans S1.out))
    have BX:=LH (bthen BW.out Z2.out)
    have X1:=LH ((Z2.out.block _ (loh P1.out)).trans P1.out)
    have X2:=LH ((Z2.out.block _ (loh P2.out)).trans P2.out)
    clear hb2 R1 N1 Z1 Z2 S1 PB B1 k2
    unfold findP
    go_wp2_with fail
    go_roundw
    case rel=>exact ⟨1+1,by omega,by go_num,BX.out,X1.out,X2.out,HN2.out⟩
    case measure=>simp [intOf]
   | some op'=>
    cases ea with
    | none=>
     have HN2:Hid (∀ j,j<1+1->try80 ⟨lab,colon,op,args⟩ j=none):=LH (fun j hj=>by
      by_cases hjk:j=1
      ·rw [hjk];exact T1.out.trans (if_neg (by simp))
      ·exact hno.out j (by omega))
     clear hno T1 L1
     go_wp2_with fail
     refine (N1.out _ _ R1.out).mono ?_
     rintro e w2 ⟨rfl,hb2⟩
     have Z2:=LH ((bthen Z1.out hb2).alloc (bthen Z1.out hb2).size (.cells #[.int .u8 op'] 5))
     have S2:=LH ((Below.heap_alloc w2 (.cells #[.int .u8 op'] 5) wr.heap.size (Nat.lt_of_lt_of_le (loh S1.out) hb2.size)).trans ((hb2.block wr.heap.size (loh S1.out)).trans S1.out))
     have D2:=LH (heap_alloc_new w2 (.cells #[.int .u8 op'] 5))
     have BX:=LH (bthen BW.out Z2.out)
     have X1:=LH ((Z2.out.block _ (loh P1.out)).trans P1.out)
     have X2:=LH ((Z2.out.block _ (loh P2.out)).trans P2.out)
     have ks:(w2.alloc (.cells #[.int .u8 op'] 5)).cell? ⟨wr.heap.size,0,none⟩=some (.int .i64 1):=coh S2.out
     have hlt2:wr.heap.size<w2.heap.size:=Nat.lt_of_lt_of_le (loh S1.out) hb2.size
     have hcb:w.heap.size+1+1<wr.heap.size:=loh P2.out
     clear hb2 R1 N1 Z1 Z2 S1 PB B1 k2
     unfold findP
     go_wp2_with fail
     go_roundw
     case rel=>exact ⟨1+1,by omega,by go_num,BX.out,X1.out,X2.out,HN2.out⟩
     case measure=>simp [intOf]
    | some e0=>
     have g1:decide ((e0:Int)<0)=false:=by simp
     have g2:(0:Int)<=(e0:Int):=by omega
     have HV:=LH (HYES.out 1 (by decide) hno.out _ (T1.out.trans (if_pos (by simp))))
     have hol:=L1.out op' rfl
     clear hno T1 L1
     go_wp2_with fail
     refine (N1.out _ _ R1.out).mono ?_
     rintro e w2 ⟨rfl,hb2⟩
     have Z2:=LH ((bthen Z1.out hb2).alloc (bthen Z1.out hb2).size (.cells #[.int .u8 op'] 5))
     have S2:=LH ((Below.heap_alloc w2 (.cells #[.int .u8 op'] 5) wr.heap.size (Nat.lt_of_lt_of_le (loh S1.out) hb2.size)).trans ((hb2.block wr.heap.size (loh S1.out)).trans S1.out))
     have D2:=LH (heap_alloc_new w2 (.cells #[.int .u8 op'] 5))
     have BX:=LH (bthen BW.out Z2.out)
     have X1:=LH ((Z2.out.block _ (loh P1.out)).trans P1.out)
     have X2:=LH ((Z2.out.block _ (loh P2.out)).trans P2.out)
     have ks:(w2.alloc (.cells #[.int .u8 op'] 5)).cell? ⟨wr.heap.size,0,none⟩=some (.int .i64 1):=coh S2.out
     have hlt2:wr.heap.size<w2.heap.size:=Nat.lt_of_lt_of_le (loh S1.out) hb2.size
     have hcb:w.heap.size+1+1<wr.heap.size:=loh P2.out
     clear hb2 R1 N1 Z1 Z2 S1 PB B1 k2
     unfold findP
     obtain ⟨m0,m1,m2,f0,f1,f2⟩:=three_of X2.out
     obtain ⟨q0,q1,q2⟩:=three_set (.int .i64 2) (.int .i64 (eI (some e0))) (.func (.func 303) #[] #[.pointer (some ⟨w2.heap.size,0,none⟩),.pointer (some ⟨wr.heap.size,0,none⟩)]) X2.out
     have Q:=LH (And.intro q0 (And.intro q1 q2))
     have B5:=LH (((BX.out.setCell (p:=⟨w.heap.size+1+1,0,none⟩) (by show w.heap.size<=w.heap.size+1+1;omega) (.int .i64 2)).setCell (p:=⟨w.heap.size+1+1,1,none⟩) (by show w.heap.size<=w.heap.size+1+1;omega) (.int .i64 (eI (some e0)))).setCell (p:=⟨w.heap.size+1+1,2,none⟩) (by show w.heap.size<=w.heap.size+1+1;omega) (.func (.func 303) #[] #[.pointer (some ⟨w2.heap.size,0,none⟩),.pointer (some ⟨wr.heap.size,0,none⟩)]))
     clear q0 q1 q2
     go_wp2_with fail
     obtain ⟨q0,q1,q2⟩:=Q.out
     refine bodyPost_ret (v:=.tuple #[.agg #[.int .i64 2,.int .i64 (eI (some e0)),(.func (.func 303) #[] #[.pointer (some ⟨w2.heap.size,0,none⟩),.pointer (some ⟨wr.heap.size,0,none⟩)])],.bool true]) (by simp [results,Tryz.results299,go_sem,q0,q1,q2]) rfl ?_
     rw [HV.out]
     refine ⟨B5.out,_,rfl,⟨_,_,_,rfl,.inr ⟨_,_,rfl⟩⟩,fun c hc=>?_⟩
     injection hc with hc
     rw [← hc]
     refine ⟨303,_,rfl,find1_enter,fun W pl v hW hsz hv=>?_⟩
     have a1:W.cell? ⟨w2.heap.size,0,none⟩=some (.int .u8 op'):=coh ((hW w2.heap.size (by omega) (by simp)).trans ((keep3 _ _ _ _ _ (by omega)).trans D2.out))
     have a2:W.cell? ⟨wr.heap.size,0,none⟩=some (.int .i64 1):=coh ((hW wr.heap.size (by omega) (by simp;omega)).trans ((keep3 _ _ _ _ _ (by omega)).trans S2.out))
     exact find1_any op' 1 v hol (by decide) hv (pl:Int) _ _ W a1 a2
  ·have T1:=LH (HT.out 2)
   have F1:=LH (HF.out (num80 2))
   have N1:=LH (HN.out (num80 2))
   have L1:=LH (HLT.out (num80 2))
   have PA:=LH ((Below.heap_alloc wr (.cells #[.int .i64 2] 3) (w.heap.size+1) (loh P1.out)).trans P1.out)
   have BA:=LH (BW.out.alloc BW.out.size (.cells #[.int .i64 2] 3))
   have SA:=LH (heap_alloc_new wr (.cells #[.int .i64 2] 3))
   have k3:(wr.alloc (.cells #[.int .i64 2] 3)).cell? ⟨w.heap.size+1,3,none⟩=some (.slice A args.length c):=coh PA.out
   clear HF HN HLT HT
   generalize form80 (num80 2) args=ws at *
   generalize lastA args 0 none=ea at *
   generalize find80 op ws=fo at *
   have hix:∀ W,(Instr.index 388 (.agg #[.string ⟨#[]⟩,.string ⟨#[100,56]⟩,.string ⟨#[100,49,54]⟩]) (.int .i64 2)).run Tryz.prog W=.ok (.string ⟨#[100,49,54]⟩) W:=fun W=>by kernel_rfl
   go_wp2_with fail
   refine (F1.out _ BA.out).mono ?_
   rintro e w1 ⟨u,rfl,hr1,hb1⟩
   have B1:=LH (bthen BA.out hb1)
   have S1:=LH ((hb1.block wr.heap.size (by simp)).trans SA.out)
   have PB:=LH ((hb1.block (w.heap.size+1) (by have:=loh P1.out;simp;omega)).trans PA.out)
   have k2:w1.cell? ⟨w.heap.size+1,2,none⟩=some (.string ⟨op.toArray⟩):=coh PB.out
   have R1:=LH hr1
   obtain ⟨U,uc,rfl,_⟩:=R1.out.form
   have Z1:=LH (bthen ((Below.refl wr.heap.size wr).alloc (Nat.le_refl _) (.cells #[.int .i64 2] 3)) hb1)
   clear hr1 hb1 F1 BA SA PA k3
   cases fo with
   | none=>
    have HN2:Hid (∀ j,j<2+1->try80 ⟨lab,colon,op,args⟩ j=none):=LH (fun j hj=>by
     by_cases hjk:j=2
     ·rw [hjk];exact T1.out
     ·exact hno.out j (by omega))
    clear hno T1 L1
    go_wp2_with fail
    refine (N1.out _ _ R1.out).mono ?_
    rintro e w2 ⟨rfl,hb2⟩
    have Z2:=LH ((bthen Z1.out hb2).alloc (bthen Z1.out hb2).size (.cells #[.int .u8 0] 5))
    have S2:=LH ((Below.heap_alloc w2 (.cells #[.int .u8 0] 5) wr.heap.size (Nat.lt_of_lt_of_le (loh S1.out) hb2.size)).trans ((hb2.block wr.heap.size (loh S1.out)).trans S1.out))
    have BX:=LH (bthen BW.out Z2.out)
    have X1:=LH ((Z2.out.block _ (loh P1.out)).trans P1.out)
    have X2:=LH ((Z2.out.block _ (loh P2.out)).trans P2.out)
    clear hb2 R1 N1 Z1 Z2 S1 PB B1 k2
    unfold findP
    go_wp2_with fail
    go_roundw
    case rel=>exact ⟨2+1,by omega,by go_num,BX.out,X1.out,X2.out,HN2.out⟩
    case measure=>simp [intOf]
   | some op'=>
    cases ea with
    | none=>
     have HN2:Hid (∀ j,j<2+1->try80 ⟨lab,colon,op,args⟩ j=none):=LH (fun j hj=>by
      by_cases hjk:j=2
      ·rw [hjk];exact T1.out.trans (if_neg (by simp))
      ·exact hno.out j (by omega))
     clear hno T1 L1
     go_wp2_with fail
     refine (N1.out _ _ R1.out).mono ?_
     rintro e w2 ⟨rfl,hb2⟩
     have Z2:=LH ((bthen Z1.out hb2).alloc (bthen Z1.out hb2).size (.cells #[.int .u8 op'] 5))
     have S2:=LH ((Below.heap_alloc w2 (.cells #[.int .u8 op'] 5) wr.heap.size (Nat.lt_of_lt_of_le (loh S1.out) hb2.size)).trans ((hb2.block wr.heap.size (loh S1.out)).trans S1.out))
     have D2:=LH (heap_alloc_new w2 (.cells #[.int .u8 op'] 5))
     have BX:=LH (bthen BW.out Z2.out)
     have X1:=LH ((Z2.out.block _ (loh P1.out)).trans P1.out)
     have X2:=LH ((Z2.out.block _ (loh P2.out)).trans P2.out)
     have ks:(w2.alloc (.cells #[.int .u8 op'] 5)).cell? ⟨wr.heap.size,0,none⟩=some (.int .i64 2):=coh S2.out
     have hlt2:wr.heap.size<w2.heap.size:=Nat.lt_of_lt_of_le (loh S1.out) hb2.size
     have hcb:w.heap.size+1+1<wr.heap.size:=loh P2.out
     clear hb2 R1 N1 Z1 Z2 S1 PB B1 k2
     unfold findP
     go_wp2_with fail
     go_roundw
     case rel=>exact ⟨2+1,by omega,by go_num,BX.out,X1.out,X2.out,HN2.out⟩
     case measure=>simp [intOf]
    | some e0=>
     have g1:decide ((e0:Int)<0)=false:=by simp
     have g2:(0:Int)<=(e0:Int):=by omega
     have HV:=LH (HYES.out 2 (by decide) hno.out _ (T1.out.trans (if_pos (by simp))))
     have hol:=L1.out op' rfl
     clear hno T1 L1
     go_wp2_with fail
     refine (N1.out _ _ R1.out).mono ?_
     rintro e w2 ⟨rfl,hb2⟩
     have Z2:=LH ((bthen Z1.out hb2).alloc (bthen Z1.out hb2).size (.cells #[.int .u8 op'] 5))
     have S2:=LH ((Below.heap_alloc w2 (.cells #[.int .u8 op'] 5) wr.heap.size (Nat.lt_of_lt_of_le (loh S1.out) hb2.size)).trans ((hb2.block wr.heap.size (loh S1.out)).trans S1.out))
     have D2:=LH (heap_alloc_new w2 (.cells #[.int .u8 op'] 5))
     have BX:=LH (bthen BW.out Z2.out)
     have X1:=LH ((Z2.out.block _ (loh P1.out)).trans P1.out)
     have X2:=LH ((Z2.out.block _ (loh P2.out)).trans P2.out)
     have ks:(w2.alloc (.cells #[.int .u8 op'] 5)).cell? ⟨wr.heap.size,0,none⟩=some (.int .i64 2):=coh S2.out
     have hlt2:wr.heap.size<w2.heap.size:=Nat.lt_of_lt_of_le (loh S1.out) hb2.size
     have hcb:w.heap.size+1+1<wr.heap.size:=loh P2.out
     clear hb2 R1 N1 Z1 Z2 S1 PB B1 k2
     unfold findP
     obtain ⟨m0,m1,m2,f0,f1,f2⟩:=three_of X2.out
     obtain ⟨q0,q1,q2⟩:=three_set (.int .i64 3) (.int .i64 (eI (some e0))) (.func (.func 303) #[] #[.pointer (some ⟨w2.heap.size,0,none⟩),.pointer (some ⟨wr.heap.size,0,none⟩)]) X2.out
     have Q:=LH (And.intro q0 (And.intro q1 q2))
     have B5:=LH (((BX.out.setCell (p:=⟨w.heap.size+1+1,0,none⟩) (by show w.heap.size<=w.heap.size+1+1;omega) (.int .i64 3)).setCell (p:=⟨w.heap.size+1+1,1,none⟩) (by show w.heap.size<=w.heap.size+1+1;omega) (.int .i64 (eI (some e0)))).setCell (p:=⟨w.heap.size+1+1,2,none⟩) (by show w.heap.size<=w.heap.size+1+1;omega) (.func (.func 303) #[] #[.pointer (some ⟨w2.heap.size,0,none⟩),.pointer (some ⟨wr.heap.size,0,none⟩)]))
     clear q0 q1 q2
     go_wp2_with fail
     obtain ⟨q0,q1,q2⟩:=Q.out
     refine bodyPost_ret (v:=.tuple #[.agg #[.int .i64 3,.int .i64 (eI (some e0)),(.func (.func 303) #[] #[.pointer (some ⟨w2.heap.size,0,none⟩),.pointer (some ⟨wr.heap.size,0,none⟩)])],.bool true]) (by simp [results,Tryz.results299,go_sem,q0,q1,q2]) rfl ?_
     rw [HV.out]
     refine ⟨B5.out,_,rfl,⟨_,_,_,rfl,.inr ⟨_,_,rfl⟩⟩,fun c hc=>?_⟩
     injection hc with hc
     rw [← hc]
     refine ⟨303,_,rfl,find1_enter,fun W pl v hW hsz hv=>?_⟩
     have a1:W.cell? ⟨w2.heap.size,0,none⟩=some (.int .u8 op'):=coh ((hW w2.heap.size (by omega) (by simp)).trans ((keep3 _ _ _ _ _ (by omega)).trans D2.out))
     have a2:W.cell? ⟨wr.heap.size,0,none⟩=some (.int .i64 2):=coh ((hW wr.heap.size (by omega) (by simp;omega)).trans ((keep3 _ _ _ _ _ (by omega)).trans S2.out))
     exact find1_any op' 2 v hol (by decide) hv (pl:Int) _ _ W a1 a2
  ·have HV:=LH (HNO.out hno.out)
   obtain ⟨m0,m1,m2,f0,f1,f2⟩:=three_of P2.out
   obtain ⟨q0,q1,q2⟩:=three_set (.int .i64 0) (.int .i64 0) .nilFunc P2.out
   have Q:=LH (And.intro q0 (And.intro q1 q2))
   have B5:=LH (((BW.out.setCell (p:=⟨w.heap.size+1+1,0,none⟩) (by show w.heap.size<=w.heap.size+1+1;omega) (.int .i64 0)).setCell (p:=⟨w.heap.size+1+1,1,none⟩) (by show w.heap.size<=w.heap.size+1+1;omega) (.int .i64 0)).setCell (p:=⟨w.heap.size+1+1,2,none⟩) (by show w.heap.size<=w.heap.size+1+1;omega) .nilFunc)
   clear hno HF HN HLT HT q0 q1 q2
   go_wp2_with fail
   obtain ⟨q0,q1,q2⟩:=Q.out
   refine bodyPost_ret (v:=.tuple #[.agg #[.int .i64 0,.int .i64 0,.nilFunc],.bool false]) (by simp [results,Tryz.results299,go_sem,q0,q1,q2]) rfl ?_
   rw [HV.out]
   exact ⟨B5.out,_,rfl,⟨0,0,_,rfl,.inl rfl⟩,fun c hc=>by cases hc⟩
def dirP (o:Option (Nat × Nat)):Nat × Nat × Bool:=match o with
 | some (a,b)=>(a,b,true)
 | none=>(0,0,false)
theorem operands_any (op:List UInt8) (w:World):Calls Tryz.prog 202 #[.string ⟨op.toArray⟩] w fun e w'=>e=.returned (.tuple #[.int .i64 ((dirP (dirA op)).1:Nat),.int .i64 ((dirP (dirA op)).2.1:Nat),.bool (dirP (dirA op)).2.2])/\w=w':=by
 by_cases h:op∈[sENDIF,[],sEND,sORG,sEQU,sSET,sDS,sIF,sDB,sDW]
 ·simp only [List.mem_cons,List.not_mem_nil,or_false] at h
  rcases h with rfl | rfl | rfl | rfl | rfl | rfl | rfl | rfl | rfl | rfl
  all_goals (
   go_enter Tryz.func202, Tryz.ntmps202
   go_wp2_with fail
   go_ret3
   exact ⟨rfl,rfl⟩)
 ·simp only [List.mem_cons,List.not_mem_nil,or_false,not_or] at h
  obtain ⟨h1,h2,h3,h4,h5,h6,h7,h8,h9,h10⟩:=h
  have hv:dirA op=none:=by unfold dirA;simp [h1,h2,h3,h4,h5,h6,h7,h8,h9,h10]
  have g1:=str_ne h1
  have g2:=str_ne h2
  have g3:=str_ne h3
  have g4:=str_ne h4
  have g5:=str_ne h5
  have g6:=str_ne h6
  have g7:=str_ne h7
  have g8:=str_ne h8
  have g9:=str_ne h9
  have g10:=str_ne h10
  rw [hv]
  clear hv h1 h2 h3 h4 h5 h6 h7 h8 h9 h10
  go_enter Tryz.func202, Tryz.ntmps202
  go_wp2_with fail
  go_ret3
  exact ⟨rfl,rfl⟩
end Go.Proofs.YtbdnbfacalfciaaGreatDoor
