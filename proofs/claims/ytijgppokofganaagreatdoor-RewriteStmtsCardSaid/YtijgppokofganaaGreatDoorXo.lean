/- Xo. -/
import Derived.Test.YtijgppokofganaaGreatDoorXn
import Derived.Test.YtijgppokofganaaGreatDoorXl
import Derived.Test.YtijgppokofganaaGreatDoorRw10
import Derived.Test.YtijgppokofganaaGreatDoorUa
namespace Go.Proofs.YtijgppokofganaaGreatDoor
set_option maxHeartbeats 16000000
theorem renE_fit (e:Ex):∀ d,rightE e d=true->fitE e=true->fitE (renE e).1=true:=by
 refine Ex.ind (P:=fun e=>∀ d,rightE e d=true->fitE e=true->fitE (renE e).1=true) (fun o n m s ih d h hf=>?_) e
 have hL:∀ s:List Ex,(∀ e∈s,∀ d,rightE e d=true->fitE e=true->fitE (renE e).1=true)->rightL s (d - 1)=true->fitL s=true->fitL (renL s).1=true:=by
  intro s ih
  induction s with
  | nil=>intro _ _;rfl
  | cons a r ih2=>
   intro hr hf
   simp only [rightL,Bool.and_eq_true] at hr
   simp only [fitL,Bool.and_eq_true] at hf
   rw [renL]
   split
   ·rfl
   ·split
    ·rfl
    ·simp only [fitL,Bool.and_eq_true]
     exact ⟨ih a (by simp) _ hr.1 hf.1,ih2 (fun e he=>ih e (by simp [he])) hr.2 hf.2⟩
 simp only [rightE,Bool.and_eq_true] at h
 simp only [fitE,Bool.and_eq_true,decide_eq_true_eq] at hf
 have h2:=hL s ih h.2 hf.2
 rw [renE_eq]
 split
 ·rfl
 ·split
  ·rfl
  ·simp only [fitE,Bool.and_eq_true,decide_eq_true_eq]
   refine ⟨⟨hf.1.1,?_⟩,h2⟩
   unfold nmR
   split
   ·next ho=>
    have h3:=h.1.2
    unfold headE at h3
    simp only [Bool.and_eq_true] at h3
    have h4:=h3.2
    rw [if_pos ho] at h4
    simp only [Bool.and_eq_true] at h4
    have h5:=name_len h4.1.1
    have:=renA_len m
    omega
   ·exact hf.1.2
theorem plain_len {d:Int} {m:List UInt8} (h:plainB d m=true):m.length<=16:=by
 unfold plainB greatB at h
 simp only [Bool.and_eq_true] at h
 exact name_len h.1.1.1
theorem renArs_fit (l:List Ar) (h:∀ a∈l,fitA a/\(a.w = []->a.is=false->rightE a.e 24=true)):∀ a∈(renArs l).1,fitA a:=by
 induction l with
 | nil=>intro a ha;simp [renArs] at ha
 | cons a r ih=>
  rw [renArs]
  split
  ·simp
  ·split
   ·simp
   ·intro b hb
    rcases List.mem_cons.1 hb with rfl | hb
    ·have h1:=h a (by simp)
     unfold renAr
     split
     ·exact h1.1
     ·next h2=>
      simp only [not_or,ne_eq,Decidable.not_not,Bool.not_eq_true] at h2
      exact ⟨h1.1.1,h1.1.2.1,renE_fit a.e 24 (h1.2 h2.1 h2.2) h1.1.2.2⟩
    ·exact ih (fun x hx=>h x (by simp [hx])) b hb
theorem zname_small:∀ op,op<256->(zname op).length<=1000:=by decide +kernel
theorem zargs_small:∀ op,op<256->∀ x∈zargs op,x.length<=1000:=by decide +kernel
theorem eight_fit {e:Ex} (h:fitE e=true):fitE (eightE e)=true:=by
 unfold eightE
 split
 ·obtain ⟨o,n,m,s⟩:=e
  simp only [fitE,Bool.and_eq_true,decide_eq_true_eq] at h ⊢
  simp only [Ex.n,Ex.name,Ex.sub]
  exact ⟨⟨⟨by omega,by decide⟩,h.1.2⟩,h.2⟩
 ·simp only [fitE,fitL,Bool.and_eq_true]
  exact ⟨by decide,h,by decide⟩
theorem getD_fit {l:List Ar} (h:∀ a∈l,fitA a) (i:Nat):fitE (l.getD i ar0).e=true:=by
 rw [List.getD_eq_getElem?_getD]
 cases hi:l[i]? with
 | none=>decide
 | some a=>exact (h a (List.mem_of_getElem? hi)).2.2
theorem turn_fit (s:St) (hf:fitS s):fitS (turnRw s).1:=by
 unfold turnRw
 split
 ·split
  ·exact hf
  ·refine ⟨hf.1,(by decide:(3:Nat)<=1000),fun a ha=>?_⟩
   simp at ha
   subst ha
   exact ⟨Nat.zero_le _,Nat.zero_le _,eight_fit (getD_fit hf.2.2 0)⟩
 ·cases ho:opcodeRw s with
  | none=>exact hf
  | some op=>
   have h8:=opcodeRw_lt ho
   refine ⟨hf.1,zname_small op h8,fun a ha=>?_⟩
   obtain ⟨x,hx,rfl⟩:=List.mem_map.1 ha
   have hx2:=zargs_small op h8 x hx
   have he:fitE (exprRw s.args)=true:=by
    unfold exprRw
    split
    ·exact getD_fit hf.2.2 _
    ·decide
   unfold argRw
   split
   ·exact ⟨Nat.zero_le _,Nat.zero_le _,he⟩
   ·split
    ·exact ⟨Nat.zero_le _,Nat.zero_le _,he⟩
    ·exact ⟨hx2,Nat.zero_le _,rfl⟩
theorem renS_fit (s:St) (hf:fitS s) (h:rightS 0 s=0):fitS (renS s):=by
 have hF:=rightS.form h
 refine ⟨?_,hf.2.1,renArs_fit s.args (fun a ha=>⟨hf.2.2 a ha,rightS_expr h a ha⟩)⟩
 show (renA s.label).1.length<=1000
 have h1:=renA_len s.label
 by_cases h2:s.label = []
 ·rw [h2] at h1 ⊢
  simp only [List.length_nil] at h1
  omega
 ·have:=plain_len (hF.lab h2)
  omega
theorem stmt_fit (s:St) (hf:fitS s):fitS (stmtRw s).1:=by
 unfold stmtRw
 split
 ·exact fit_st0
 ·next h1=>
  have h0:rightS 0 s=0:=by omega
  split
  ·exact fit_st0
  ·split
   ·exact fit_st0
   ·split
    ·split
     ·exact fit_st0
     ·exact turn_fit _ (renS_fit s hf h0)
    ·split
     ·exact fit_st0
     ·exact renS_fit s hf h0
theorem asm_zero (s:List UInt8) (h:(asm80A s).2.2=0):(asm80A s).2.1=0:=by
 unfold asm80A at h ⊢
 split at h
 ·next h1=>exact absurd h h1
 ·next h1=>
  rw [if_neg h1]
  unfold run80 at h ⊢
  split at h
  ·next h2=>exact absurd h h2
  ·next h2=>rw [if_neg h2];exact passL_zero _ _ _ _ _ h
theorem asm_used (s:List UInt8):∀ u∈(asm80A s).1.used,1<=u/\u<=(srcS 0 s).1.length:=by
 unfold asm80A
 split
 ·simp [eg1,eg0]
 ·exact run80_used _
theorem showRw_step (l:List St) (ns:List Nat) (k:Nat) (hk:k<ns.length) (acc:List UInt8):showRw l (ns.drop k) acc =
  if (stmtRw (l.getD (ns[k] - 1) st0)).2≠0 then ([],ns[k],(stmtRw (l.getD (ns[k] - 1) st0)).2)
  else if (showS 1 (stmtRw (l.getD (ns[k] - 1) st0)).1).2≠0 then ([],ns[k],(showS 1 (stmtRw (l.getD (ns[k] - 1) st0)).1).2)
  else showRw l (ns.drop (k+1)) (acc++((showS 1 (stmtRw (l.getD (ns[k] - 1) st0)).1).1++[10])):=by
 rw [List.drop_eq_getElem_cons hk,showRw]
open Go.RowKit
theorem shw_small (d:Int) (s:St):(showS d s).1.length<=200:=by
 unfold showS
 split
 ·simp
 ·split
  ·simp
  ·simp only;omega
theorem isb_keep {w w':World} {B b:Nat} {bs:List Value} (h:Lib.IsBuilder 80 5 B b bs w) (hb:Below w.heap.size w w'):Lib.IsBuilder 80 5 B b bs w':=by
 rcases h with h | h
 ·obtain ⟨h1,v,h2,h3,h4⟩:=h
  exact .inl ⟨h1,v,(hb.block b (loh h2)).trans h2,own_bel h3 hb,h4⟩
 ·obtain ⟨h1,v,h2,h3,h4⟩:=h
  exact .inr ⟨h1,v,(hb.block b (loh h2)).trans h2,own_bel h3 hb,h4⟩
def SrcRP (w:World) (r:List UInt8 × Nat × Nat) (e:Ending) (w':World):Prop:=e=.returned (.tuple #[.string ⟨r.1.toArray⟩,.agg #[.int .i64 (r.2.1:Nat),.int .i64 (r.2.2:Nat)]])/\Below w.heap.size w w'
def SrcI (w wq:World) (B:Nat) (l:List St) (ns:List Nat) (R:List UInt8 × Nat × Nat) (k:Nat) (wr:World):Prop:=
 ∃ acc,Lib.IsBuilder 80 5 B B (Lib.byteCells acc) wr/\showRw l (ns.drop k) acc=R/\acc.length<=k * 300/\Below B wq wr/\B<wr.heap.size/\Below w.heap.size w wr
set_option maxRecDepth 100000 in
theorem wsrc_any (src:List UInt8) (w:World) (hg:GWL w) (hl:src.length<=100000) (hdd:∀ x∈(srcS 0 src).1,dirA x.op=none):Calls Tryz.prog 11 #[.string ⟨src.toArray⟩] w (SrcRP w (srcRw src)):=by
 have HRW:Hid (srcRw src=if (asm80A src).2.2≠0 then ([],(asm80A src).2) else showRw (srcS 0 src).1 (asm80A src).1.used []):=LH rfl
 have HA:=LH (fun W (hW:Below w.heap.size w W)=>asm_any src W (hg.below hW) hl hdd)
 clear hdd
 have HL:=LH (fun W (hW:Below w.heap.size w W)=>src12_any 0 src W (hg.below hW) hl _ rfl)
 have HUS:=LH (asm_used src)
 have HZE:=LH (asm_zero src)
 have HGOOD:=LH (srcS_good 0 src)
 have hfew:=(asm_few src hl).2
 have hlen:=src_len 0 src hl
 generalize asm80A src=R at *
 generalize srcS 0 src=res at *
 generalize srcRw src=out at *
 obtain ⟨eg,ln,lk⟩:=R
 obtain ⟨l,sn,sk⟩:=res
 simp only at HRW HUS HZE HGOOD hfew hlen
 have B0:=LH (bra w (.cells #[.int .i64 0,.int .i64 0] 40))
 have O0:=LH (heap_alloc_new w (.cells #[.int .i64 0,.int .i64 0] 40))
 go_enter Tryz.func11, Tryz.ntmps11
 go_wp2_with fail
 refine (HA.out _ B0.out).mono ?_
 rintro e w1 ⟨pa,nn,sA,sl,sc,lA,ll,lc,uA,ul,uc,rfl,hb1,hu⟩
 simp only at hu ⊢
 have B1:=LH (bthen B0.out hb1)
 have P0:=LH ((hb1.block w.heap.size (by simp)).trans O0.out)
 have hw1:w.heap.size<w1.heap.size:=loh P0.out
 have HU:=LH hu
 have q0:=coh (i:=0) P0.out
 have q1:=coh (i:=1) P0.out
 have q2:=foh (i:=0) P0.out
 have q3:=foh (i:=1) P0.out
 simp at q0 q1 q2 q3
 clear hb1 hu HA B0 O0
 by_cases hk:lk=0
 ·subst hk
  obtain rfl:ln=0:=HZE.out rfl
  have hres:=HRW.out.trans (if_neg (by simp))
  have HU1:=LH (HU.out rfl)
  simp only [show ((0:Nat):Int)=0 from rfl]
  clear HRW HU HZE q0 q1 q2 q3
  have D2:=LH ((bra w1 (.cells #[.pointer pa,.int .u16 nn,.slice sA sl sc,.slice lA ll lc,.slice uA ul uc] 71)).alloc (by simp) (.cells #[.int .i64 0,.int .i64 0] 40))
  have OA:=LH ((Below.heap_alloc (w1.alloc (.cells #[.pointer pa,.int .u16 nn,.slice sA sl sc,.slice lA ll lc,.slice uA ul uc] 71)) (.cells #[.int .i64 0,.int .i64 0] 40) w1.heap.size (by simp)).trans (heap_alloc_new w1 (.cells #[.pointer pa,.int .u16 nn,.slice sA sl sc,.slice lA ll lc,.slice uA ul uc] 71)))
  have OB:=LH (heap_alloc_new (w1.alloc (.cells #[.pointer pa,.int .u16 nn,.slice sA sl sc,.slice lA ll lc,.slice uA ul uc] 71)) (.cells #[.int .i64 0,.int .i64 0] 40))
  rw [show (w1.alloc (.cells #[.pointer pa,.int .u16 nn,.slice sA sl sc,.slice lA ll lc,.slice uA ul uc] 71)).heap.size=w1.heap.size+1 by simp] at OB
  go_wp2_with fail
  refine (HL.out _ (bthen B1.out D2.out)).mono ?_
  rintro e w2 ⟨v,rfl,hst,hb2⟩
  simp only at hst ⊢
  obtain ⟨A,c,rfl,hc,hm⟩:=hst.form
  have HST:=LH hst
  have BX:=LH (bthen (bthen B1.out D2.out) hb2)
  have D3:=LH (bthen D2.out hb2)
  have HOA:=LH ((hb2.block w1.heap.size (by simp;omega)).trans OA.out)
  have HOB:=LH ((hb2.block (w1.heap.size+1) (by simp)).trans OB.out)
  have hw2:w1.heap.size+1<w2.heap.size:=loh HOB.out
  have hw20:w1.heap.size<w2.heap.size:=by omega
  have a4:=coh (i:=4) HOA.out
  simp at a4
  obtain ⟨gA,gc,e1,_,_,hurow⟩:=own_slice HU1.out (by decide)
  injection e1 with e1 e2 e3
  subst e1 e2 e3
  have HUR:=LH hurow
  clear hst hb2 D2 OA OB HL hurow
  have IB:=LH (Lib.fresh_isBuilder 80 5 (w2.alloc (.cells #[.int .i64 sn,.int .i64 sk] 40)))
  have BQ:Hid (Below w.heap.size w (w2.alloc (.cells #[.int .i64 sn,.int .i64 sk] 40))):=LH (BX.out.alloc BX.out.size _)
  have HBQ:Hid (Below w2.heap.size w2 (w2.alloc (.cells #[.int .i64 sn,.int .i64 sk] 40))):=LH (bra _ _)
  have hzq:(w2.alloc (.cells #[.int .i64 sn,.int .i64 sk] 40)).heap.size=w2.heap.size+1:=by simp
  rw [hzq] at IB
  have HI0:Hid (SrcI w (w2.alloc (.cells #[.int .i64 sn,.int .i64 sk] 40)) (w2.heap.size+1) l eg.used out 0 ((w2.alloc (.cells #[.int .i64 sn,.int .i64 sk] 40)).alloc (.cells #[.pointer none,Zs] 80))):=LH ⟨[],IB.out,hres.symm,Nat.zero_le _,(Below.refl _ _).alloc (by rw [hzq];exact Nat.le_refl _) _,by simp,BQ.out.alloc BQ.out.size _⟩
  have HRES:=LH hres
  clear hres hzq IB
  go_wp2_with fail
  generalize w2.alloc (.cells #[.int .i64 sn,.int .i64 sk] 40)=wq at *
  go_loopw [31] (fun i wr=>∃ k:Nat,k<=eg.used.length/\i=.int .i64 k/\SrcI w wq (w2.heap.size+1) l eg.used out k wr) (fun i _=>eg.used.length - (intOf i).toNat)
  case atStart=>exact ⟨0,Nat.zero_le _,rfl,HI0.out⟩
  case round=>
   obtain ⟨k,hk,rfl,acc,hi,hR,hal,hbq,hzr,hbw⟩:=hrel
   have HI:=LH hi
   have HR:=LH hR
   have BR:=LH hbq
   have BW:=LH hbw
   have HB2:=LH (fun k (hk:k<w2.heap.size)=>(hbq.block k (by omega)).trans (HBQ.out.block k hk))
   clear hi hR hbq hbw
   have B2R:Hid (Below w2.heap.size w2 wr):=LH (HBQ.out.trans (BR.out.mono (by omega)))
   have B1R:Hid (Below w1.heap.size w1 wr):=LH (D3.out.trans (B2R.out.mono (by omega)))
   have P0r:=LH ((B1R.out.block w.heap.size hw1).trans P0.out)
   have hw1r:w1.heap.size<=wr.heap.size:=B1R.out.size
   clear HB2
   by_cases hlt:k<eg.used.length
   ·have i1:(k:Int)<(eg.used.length:Int):=by omega
    obtain ⟨gu,rfl,_,hgu,_,hcell⟩:=HUR.out (by omega)
    have ck:=hcell k (usV eg.used[k]) (by simp [hlt])
    unfold usV at ck
    obtain ⟨hu1,hu2⟩:=HUS.out eg.used[k] (List.getElem_mem hlt)
    obtain ⟨m,hm1⟩:∃ m,eg.used[k]=m+1:=⟨eg.used[k] - 1,by omega⟩
    have hml:m<l.length:=by omega
    have HSTEP:=LH (HR.out.symm.trans (showRw_step l eg.used k hlt acc))
    have HGD:Hid (l.getD m st0=l[m]):=LH (by rw [List.getD_eq_getElem?_getD,List.getElem?_eq_getElem hml];rfl)
    rw [hm1,Nat.add_sub_cancel,HGD.out] at HSTEP
    rw [hm1,show ((m+1:Nat):Int)=(m:Int)+1 by omega] at ck
    have cr:=(B1R.out.cell (p:=⟨gu,k,none⟩) hgu).trans ck
    have e1:IntKind.i64.wrap ((m:Int)+1 - 1)=(m:Int):=by rw [IntWalk.i64_in _ (by omega)];omega
    have e2:(m:Int)+1 - 1=(m:Int):=by omega
    have e3:(m:Int)<(l.length:Int):=by omega
    obtain ⟨gs,os,sv,rfl,⟨hgl,hgs⟩,s0,s1,s2,s3,harg⟩:=HST.out.get m hml
    have d0:=(B2R.out.cell (p:=⟨gs,os+m * 4,none⟩) hgs).trans s0
    have d1:=(B2R.out.cell (p:=⟨gs,os+m * 4+1,none⟩) hgs).trans s1
    have d2:=(B2R.out.cell (p:=⟨gs,os+m * 4+2,none⟩) hgs).trans s2
    have d3:=(B2R.out.cell (p:=⟨gs,os+m * 4+3,none⟩) hgs).trans s3
    obtain ⟨hgood,hfit⟩:=HGOOD.out l[m] (List.getElem_mem hml)
    have HWS:=LH (wstmt_any l[m] sv wr (hg.below BW.out) hfit (harg.keep (fun p hp=>B2R.out.cell hp.2) (fun g hg=>Nat.lt_of_lt_of_le hg.2 B2R.out.size)))
    have HFT:=LH (stmt_fit l[m] hfit)
    obtain ⟨vA,vc,rfl,_,_⟩:=harg.form
    unfold stV at HWS
    generalize stmtRw l[m]=sr at *
    generalize l[m]=s at *
    obtain ⟨s9,k9⟩:=sr
    simp only at HSTEP HFT
    clear s0 s1 s2 s3 harg hgood hfit hcell ck hu1 hu2 hm1 HGD HR
    go_wp2_with fail
    refine HWS.out.mono ?_
    rintro e w5 ⟨u,rfl,hat,hb5⟩
    simp only at hat ⊢
    obtain ⟨uA,uc,rfl,_,_⟩:=hat.form
    have HAT:=LH hat
    have B5:=LH hb5
    have P05:=LH ((hb5.block w.heap.size (by omega)).trans P0r.out)
    have hz5:wr.heap.size<=w5.heap.size:=hb5.size
    have hw05:w.heap.size<w5.heap.size:=loh P05.out
    have BB:=LH (bra w5 (.cells #[Sx s9.label,.bool s9.colon,Sx s9.op,.slice uA s9.args.length uc] 24))
    have q0:=coh (i:=0) P05.out
    have q1:=coh (i:=1) P05.out
    have q2:=foh (i:=0) P05.out
    have q3:=foh (i:=1) P05.out
    simp at q0 q1 q2 q3
    clear hat hb5 HWS d0 d1 d2 d3 cr
    by_cases hk9:k9=0
    ·subst hk9
     have HST2:=LH (HSTEP.out.trans (if_neg (by simp)))
     have HSH:=LH (fun W (hW:Below w5.heap.size w5 W)=>show12_any 1 s9 (.slice uA s9.args.length uc) W (hg.below (bthen (bthen BW.out B5.out) hW)) HFT.out (HAT.out.keep (fun p hp=>hW.cell hp) (fun g hg=>Nat.lt_of_lt_of_le hg hW.size)))
     have hsl:=shw_small 1 s9
     unfold stV at HSH
     generalize showS 1 s9=sh at *
     obtain ⟨st,ks⟩:=sh
     simp only at HSH HST2 hsl
     clear HSTEP q0 q1 q2 q3
     go_wp2_with fail
     refine (HSH.out _ BB.out).mono ?_
     rintro e w6 ⟨rfl,hb6⟩
     have B6:=LH (bthen B5.out (bthen BB.out hb6))
     have P06:=LH ((hb6.block w.heap.size (by simp;omega)).trans ((Below.heap_alloc _ _ w.heap.size hw05).trans P05.out))
     have hz6:wr.heap.size<=w6.heap.size:=B6.out.size
     have q0:=coh (i:=0) P06.out
     have q1:=coh (i:=1) P06.out
     have q2:=foh (i:=0) P06.out
     have q3:=foh (i:=1) P06.out
     simp at q0 q1 q2 q3
     clear hb6 HSH
     by_cases hks:ks=0
     ·subst hks
      have HST3:=LH (HST2.out.trans (if_neg (by simp)))
      have HWR:=LH (bwrite_str (w2.heap.size+1) (w2.heap.size+1) acc (st++[10]) w6 (isb_keep HI.out B6.out) (by simp;omega) (by omega))
      clear HST2 q0 q1 q2 q3
      go_wp2_with fail
      refine HWR.out.mono ?_
      rintro e w7 ⟨rfl,h7,hb7⟩
      have H7:=LH h7
      have B7:=LH ((BR.out.trans (B6.out.mono (by omega))).trans hb7)
      have B70:=LH ((bthen BW.out B6.out).trans (hb7.mono (by omega)))
      have hz7:=hb7.size
      clear h7 hb7 HWR
      go_wp2_with fail
      go_roundw
      case rel=>exact ⟨k+1,by omega,by go_num,acc++(st++[10]),H7.out,HST3.out.symm,by simp;omega,B7.out,by omega,B70.out⟩
      case measure=>simp [intOf];omega
     ·have e5:((ks:Int) != 0)=true:=by rw [bne_iff_ne];omega
      have HX:=LH (HST2.out.trans (if_pos hks))
      clear HST2 hks
      go_wp2_with fail
      refine bodyPost_ret (v:=.tuple #[Sn,.agg #[.int .i64 ((m:Int)+1),.int .i64 ks]]) (by simp [results,Tryz.results11,go_sem,q0,q1]) rfl ?_
      rw [HX.out]
      exact ⟨by simp,((bthen BW.out B6.out).setCell (Nat.le_refl _) _).setCell (Nat.le_refl _) _⟩
    ·have e5:((k9:Int) != 0)=true:=by rw [bne_iff_ne];omega
     have HX:=LH (HSTEP.out.trans (if_pos hk9))
     clear HSTEP hk9
     go_wp2_with fail
     refine bodyPost_ret (v:=.tuple #[Sn,.agg #[.int .i64 ((m:Int)+1),.int .i64 k9]]) (by simp [results,Tryz.results11,go_sem,q0,q1,hw05]) rfl ?_
     rw [HX.out]
     exact ⟨by simp,(((bthen BW.out B5.out).setCell (Nat.le_refl _) _).setCell (Nat.le_refl _) _).alloc (by simp;omega) _⟩
   ·obtain rfl:k=eg.used.length:=by omega
    have HX:Hid (out=(acc,0,0)):=LH (by rw [← HR.out,List.drop_length];rfl)
    have HBS:=LH (fun W (hW:Below wr.heap.size wr W)=>Tryz.Builder_String_any (w2.heap.size+1) (w2.heap.size+1) acc W (isb_keep HI.out hW) (by have:=hW.size;omega))
    have Z0:=LH ((B1R.out.trans (Below.refl _ _)).block w1.heap.size)
    have PBr:=LH ((B2R.out.block (w1.heap.size+1) hw2).trans HOB.out)
    have q0:=coh (i:=0) P0r.out
    have q1:=coh (i:=1) P0r.out
    have q2:=foh (i:=0) P0r.out
    have q3:=foh (i:=1) P0r.out
    have p0:=coh (i:=0) PBr.out
    have p1:=coh (i:=1) PBr.out
    simp at q0 q1 q2 q3 p0 p1
    clear HR Z0
    go_wp2_with fail
    go_region_with (refine (HBS.out _ (Below.refl wr.heap.size wr).drew).mono ?_;rintro e w9 ⟨rfl,hb9⟩;have Y0:=(hb9.cell (p:=⟨w1.heap.size+1,0,none⟩) (by show w1.heap.size+1<w2.heap.size+1;omega)).trans p0;have Y1:=(hb9.cell (p:=⟨w1.heap.size+1,1,none⟩) (by show w1.heap.size+1<w2.heap.size+1;omega)).trans p1;have X0:=(hb9.cell (p:=⟨w.heap.size,0,none⟩) (by show w.heap.size<w2.heap.size+1;omega)).trans q0;have X1:=(hb9.cell (p:=⟨w.heap.size,1,none⟩) (by show w.heap.size<w2.heap.size+1;omega)).trans q1;have X2:=(hb9.frozen (p:=⟨w.heap.size,0,none⟩) (by show w.heap.size<w2.heap.size+1;omega)).trans q2;have X3:=(hb9.frozen (p:=⟨w.heap.size,1,none⟩) (by show w.heap.size<w2.heap.size+1;omega)).trans q3)
    all_goals (
     go_simp
     go_wp2_with fail
     refine bodyPost_ret (v:=.tuple #[Sx acc,.agg #[.int .i64 0,.int .i64 0]]) (by simp [results,Tryz.results11,go_sem,X0,X1]) rfl ?_
     rw [HX.out]
     exact ⟨rfl,((BW.out.drew.trans (hb9.mono (by omega))).setCell (Nat.le_refl _) _).setCell (Nat.le_refl _) _⟩)
 ·have e5:((lk:Int) != 0)=true:=by rw [bne_iff_ne];omega
  have HX:=LH (HRW.out.trans (if_pos hk))
  clear HRW HU HZE hk
  go_wp2_with fail
  go_region
  all_goals (
   go_wp2_with fail
   refine bodyPost_ret (v:=.tuple #[Sn,.agg #[.int .i64 ln,.int .i64 lk]]) (by simp [results,Tryz.results11,go_sem,q0,q1,hw1]) rfl ?_
   rw [HX.out]
   refine ⟨rfl,?_⟩
   exact (((B1.out.setCell (Nat.le_refl _) _).setCell (Nat.le_refl _) _).trans ((((Below.refl _ _).alloc (by simp;omega) _).alloc (by simp;omega) _))).drew)
abbrev al19i:List UInt8:=[78,90,58,32,109,111,118,32,97,44,109,10,106,110,122,32,110,122]
abbrev al19o:List UInt8:=[78,90,95,58,32,76,68,32,65,44,40,72,76,41,10,74,80,32,78,90,44,78,90,95,10]
theorem alive19_any (w:World) (hg:GWL w):Calls Tryz.prog 5 #[] w fun e w'=>e=.returned (.bool true)/\Below w.heap.size w w':=by
 have HS:=LH (wsrc_any al19i w hg (by decide) (by decide +kernel))
 have h0:srcRw al19i=(al19o,0,0):=alive19_src
 rw [h0] at HS
 go_enter Tryz.func5, Tryz.ntmps5
 go_wp2_with fail
 refine HS.out.mono ?_
 rintro e w1 ⟨rfl,hb1⟩
 have B1:=LH hb1
 clear hb1 HS
 simp only [show ((0:Nat):Int)=0 from rfl]
 go_wp2_with fail
 go_ret
 exact ⟨rfl,B1.out.alloc B1.out.size _⟩
end Go.Proofs.YtijgppokofganaaGreatDoor
