/- Rw10. -/
import Derived.Test.YtijgppokofganaaGreatDoorXn
namespace Go.Proofs.YtijgppokofganaaGreatDoor
open Go.RowKit
def StmtP (w:World) (r:St × Nat) (e:Ending) (w':World):Prop:=∃ u,e=.returned (.tuple #[stV r.1 u,.int .i64 (r.2:Nat)])/\ArAt w' (fun g=>g<w'.heap.size) u r.1.args/\Below w.heap.size w w'
theorem StmtP.bad {w w':World} {r:St × Nat} (k:Nat) (hr:r=(st0,k)) (hb:Below w.heap.size w w'):StmtP w r (.returned (.tuple #[.agg #[.string ⟨#[]⟩,.bool false,.string ⟨#[]⟩,.slice none 0 0],.int .i64 (k:Nat)])) w':=by
 subst hr
 exact ⟨Zs,rfl,ArAt.nil _ _,hb⟩
def StI (w:World) (bw:Nat) (s:St) (lab:List UInt8) (A GA:Option Addr) (c gc k:Nat) (wr:World):Prop:=
 ∃ us,ArRow wr (bw+1) (fun g=>g≠bw) (.slice GA s.args.length gc) (mixA s.args k) us/\(∀ j (hj:j<s.args.length),j<k->(renAr s.args[j]).2=0) /\
  wr.heap[bw]? = some (.cells #[.string ⟨lab.toArray⟩,.bool s.colon,.string ⟨s.op.toArray⟩,.slice GA s.args.length gc] 46 (0,0))/\Below w.heap.size w wr /\
  wr.heap[w.heap.size]? = some (.cells #[.string ⟨s.label.toArray⟩,.bool s.colon,.string ⟨s.op.toArray⟩,.slice A s.args.length c] 24 (0,0))/\wr.heap[w.heap.size+1]? = some (.cells #[.string ⟨#[]⟩,.bool false,.string ⟨#[]⟩,.slice none 0 0] 24 (0,0))
set_option maxHeartbeats 16000000 in
set_option maxRecDepth 100000 in
theorem wstmt_any (s:St) (v:Value) (w:World) (hg:GWL w) (hf:fitS s) (hs:ArAt w (· < w.heap.size) v s.args) :
  Calls Tryz.prog 6 #[stV s v] w (StmtP w (stmtRw s)):=by
 have HRW:Hid (stmtRw s=if rightS 0 s≠0 then (st0,rightS 0 s)
  else if (renA s.label).2≠0 then (st0,(renA s.label).2)
  else if (renArs s.args).2≠0 then (st0,(renArs s.args).2)
  else if s.op∉dirOps then (if (turnRw (renS s)).2≠0 then (st0,(turnRw (renS s)).2) else ((turnRw (renS s)).1,0))
  else if s.args.any (fun a=>a.w != [])=true then (st0,2)
  else (renS s,0)):=LH rfl
 have HR:=LH (fun W (hW:Below w.heap.size w W)=>Right12_any 0 s v W (hg.below hW) hf (hs.at hW hW.size))
 have HS:=LH hs
 obtain ⟨A,c,rfl,hc,hm⟩:=hs.form
 have HFIT:=LH hf
 unfold stV at *
 generalize stmtRw s=res at *
 clear hs
 have B2:=LH ((bra w (.cells #[Sx s.label,.bool s.colon,Sx s.op,.slice A s.args.length c] 24)).alloc (by simp) (.cells #[Sn,Bf,Sn,Zs] 24))
 have O0:=LH ((Below.heap_alloc (w.alloc (.cells #[Sx s.label,.bool s.colon,Sx s.op,.slice A s.args.length c] 24)) (.cells #[Sn,Bf,Sn,Zs] 24) w.heap.size (by simp)).trans (heap_alloc_new w (.cells #[Sx s.label,.bool s.colon,Sx s.op,.slice A s.args.length c] 24)))
 have O1:=LH (heap_alloc_new (w.alloc (.cells #[Sx s.label,.bool s.colon,Sx s.op,.slice A s.args.length c] 24)) (.cells #[Sn,Bf,Sn,Zs] 24))
 rw [show (w.alloc (.cells #[Sx s.label,.bool s.colon,Sx s.op,.slice A s.args.length c] 24)).heap.size=w.heap.size+1 by simp] at O1
 have HRT:=LH (fun (h:rightS 0 s=0)=>rightS_expr h)
 have HFEW:=LH (fun (h:rightS 0 s=0)=>(rightS.form h).few)
 go_enter Tryz.func6, Tryz.ntmps6
 go_wp2_with fail
 refine (HR.out _ B2.out).mono ?_
 rintro e w1 ⟨rfl,hb1⟩
 have B1:=LH (bthen B2.out hb1)
 have P0:=LH ((hb1.block w.heap.size (by simp;omega)).trans O0.out)
 have P1:=LH ((hb1.block (w.heap.size+1) (by simp)).trans O1.out)
 have hw1:w.heap.size+1<w1.heap.size:=loh P1.out
 have hw10:w.heap.size<w1.heap.size:=by omega
 obtain ⟨⟨x0,x1,x2,x3⟩,f0,f1,f2,f3⟩:=four P0.out
 obtain ⟨⟨z0,z1,z2,z3⟩,g0,g1,g2,g3⟩:=four P1.out
 clear hb1 HR B2 O0 O1
 generalize rightS 0 s=rk at *
 by_cases hrk:rk=0
 rotate_left
 ·have e5:((rk:Int) != 0)=true:=by rw [bne_iff_ne];omega
  have HX:=LH (HRW.out.trans (if_pos hrk))
  clear hrk HRW HRT HFEW
  go_wp2_with fail
  refine bodyPost_ret (v:=.tuple #[.agg #[Sn,Bf,Sn,Zs],.int .i64 rk]) (by simp [results,Tryz.results6,go_sem,z0,z1,z2,z3]) rfl ?_
  exact StmtP.bad rk HX.out ((((B1.out.setCell (Nat.le_succ _) _).setCell (Nat.le_succ _) _).setCell (Nat.le_succ _) _).setCell (Nat.le_succ _) _)
 subst hrk
 have HRW1:=LH (HRW.out.trans (if_neg (by simp)))
 have HRT1:=LH (HRT.out rfl)
 have hfew:s.args.length<=32:=HFEW.out rfl
 have hlab:s.label.length<=1000:=HFIT.out.1
 have HREN:=LH (fun W (hW:Below w.heap.size w W)=>rename_any s.label (by omega) W (hg.below hW))
 clear HRW HRT HFEW
 generalize hrn:renA s.label=rn at HRW1 HREN
 have HRN:=LH hrn
 obtain ⟨lab,lk⟩:=rn
 simp only at HREN HRW1
 have BK:=LH (bra w1 (.cells #[Sx s.label,.bool s.colon,Sx s.op,.slice A s.args.length c] 46))
 have OK1:=LH (heap_alloc_new w1 (.cells #[Sx s.label,.bool s.colon,Sx s.op,.slice A s.args.length c] 46))
 clear hrn
 go_wp2_with fail
 refine (HREN.out _ (bthen B1.out BK.out)).mono ?_
 rintro e w2 ⟨rfl,hb2⟩
 have BB2:=LH (bthen (bthen B1.out BK.out) hb2)
 have KK2:=LH ((hb2.block w1.heap.size (by simp)).trans OK1.out)
 have P02:=LH ((hb2.block w.heap.size (by simp;omega)).trans ((Below.heap_alloc _ _ w.heap.size hw10).trans P0.out))
 have P12:=LH ((hb2.block (w.heap.size+1) (by simp;omega)).trans ((Below.heap_alloc _ _ (w.heap.size+1) hw1).trans P1.out))
 have hw2:w1.heap.size<w2.heap.size:=loh KK2.out
 clear hb2 HREN BK OK1 x0 x1 x2 x3 f0 f1 f2 f3 z0 z1 z2 z3 g0 g1 g2 g3
 obtain ⟨⟨x0,x1,x2,x3⟩,f0,f1,f2,f3⟩:=four P02.out
 obtain ⟨⟨z0,z1,z2,z3⟩,g0,g1,g2,g3⟩:=four P12.out
 obtain ⟨⟨y0,y1,y2,y3⟩,h0,h1,h2,h3⟩:=four KK2.out
 by_cases hlk:lk=0
 rotate_left
 ·have e5:((lk:Int) != 0)=true:=by rw [bne_iff_ne];omega
  have HX:=LH (HRW1.out.trans (if_pos hlk))
  clear hlk HRW1 HRT1
  go_wp2_with fail
  refine bodyPost_ret (v:=.tuple #[.agg #[Sn,Bf,Sn,Zs],.int .i64 lk]) (by simp [results,Tryz.results6,go_sem,z0,z1,z2,z3]) rfl ?_
  exact StmtP.bad lk HX.out (((((BB2.out.setCell (Nat.le_of_lt hw10) _).setCell (Nat.le_succ _) _).setCell (Nat.le_succ _) _).setCell (Nat.le_succ _) _).setCell (Nat.le_succ _) _)
 subst hlk
 have HRW2:=LH (HRW1.out.trans (if_neg (by simp)))
 clear HRW1
 have K3:=LH (heap_set (i:=0) (Sx lab) KK2.out)
 have P03:=LH ((blk_off (w:=w2) (g:=w1.heap.size) (i:=0) (u:=Sx lab) (show w.heap.size≠w1.heap.size by omega)).trans P02.out)
 have P13:=LH ((blk_off (w:=w2) (g:=w1.heap.size) (i:=0) (u:=Sx lab) (show w.heap.size+1≠w1.heap.size by omega)).trans P12.out)
 have B3:=LH (BB2.out.setCell (p:=⟨w1.heap.size,0,none⟩) (Nat.le_of_lt hw10) (Sx lab))
 have HZ3:Hid (w1.heap.size<(w2.setCell ⟨w1.heap.size,0,none⟩ (Sx lab)).heap.size):=LH (by simpa using hw2)
 have HCL:=LH (clone_any (fun g=>g<w.heap.size) s.args (.slice A s.args.length c) (w2.setCell ⟨w1.heap.size,0,none⟩ (Sx lab)) (fun g hg=>by have h9:g<w.heap.size:=hg;have:=HZ3.out;omega) (HS.out.keep (fun p hp=>B3.out.cell hp) (fun g hg=>hg)) (by omega))
 clear KK2 P02 P12 BB2
 go_wp2_with fail
 generalize w2.setCell ⟨w1.heap.size,0,none⟩ (Sx lab)=w3 at *
 refine HCL.out.mono ?_
 rintro e w4 ⟨u4,us4,rfl,har4,hb4⟩
 obtain ⟨GA,gc,rfl,_,_,_⟩:=own_slice har4.2.1 (by decide)
 have hz3:=HZ3.out
 have hz4:w1.heap.size<w4.heap.size:=Nat.lt_of_lt_of_le hz3 hb4.size
 have B4:=LH (bthen B3.out hb4)
 have K4:=LH ((hb4.block w1.heap.size hz3).trans K3.out)
 have P04:=LH ((hb4.block w.heap.size (by omega)).trans P03.out)
 have P14:=LH ((hb4.block (w.heap.size+1) (by omega)).trans P13.out)
 have HAR4:=LH ((har4.weak (T':=fun g=>g≠w1.heap.size) (fun g hg=>by have h9:g<w.heap.size:=hg;omega)).low (base':=w1.heap.size+1) (by omega))
 clear har4 hb4 HCL K3 P03 P13 B3 x0 x1 x2 x3 f0 f1 f2 f3 z0 z1 z2 z3 g0 g1 g2 g3 y0 y1 y2 y3 h0 h1 h2 h3
 obtain ⟨⟨y0,y1,y2,y3⟩,h0,h1,h2,h3⟩:=four K4.out
 have HI0:Hid (StI w w1.heap.size s lab A GA c gc 0 (w4.setCell ⟨w1.heap.size,3,none⟩ (.slice GA s.args.length gc))):=LH (by
  refine ⟨us4,?_,fun j _ hj=>absurd hj (by omega),?_,B4.out.setCell (Nat.le_of_lt hw10) _,(blk_off (by omega)).trans P04.out,(blk_off (by omega)).trans P14.out⟩
  ·rw [mix_zero]
   exact HAR4.out.alien (by omega) (fun g hg=>hg) 3 _
  ·rw [heap_set (i:=3) _ K4.out]
   rfl)
 have HFE:Hid (∀ j (hj:j<s.args.length),fitE s.args[j].e=true):=LH (fun j hj=>(HFIT.out.2.2 _ (List.getElem_mem hj)).2.2)
 have HRA:=LH (renArs_ok s.args)
 have HRB:=LH (renArs_bad s.args)
 clear hz3 HZ3 hz4 HAR4 P04 P14 B4
 go_wp2_with fail
 generalize w4.setCell ⟨w1.heap.size,3,none⟩ (.slice GA s.args.length gc)=wz at *
 clear K4 y0 y1 y2 y3 h0 h1 h2 h3
 go_loopw [46] (fun i wr=>∃ k:Nat,k<=s.args.length/\i=.int .i64 k/\StI w w1.heap.size s lab A GA c gc k wr) (fun i _=>s.args.length - (intOf i).toNat)
 case atStart=>exact ⟨0,Nat.zero_le _,rfl,HI0.out⟩
 case round=>
  obtain ⟨k,hk,rfl,us,har,hpre,hkw,hbw,hp0,hp1⟩:=hrel
  have HAR:=LH har
  have HPRE:=LH hpre
  have KW:=LH hkw
  have BW:=LH hbw
  have P0:=LH hp0
  have P1:=LH hp1
  have hwb:w1.heap.size<wr.heap.size:=loh hkw
  obtain ⟨⟨y0,y1,y2,y3⟩,h0,h1,h2,h3⟩:=four hkw
  clear har hpre hkw hbw hp0 hp1
  by_cases hlt:k<s.args.length
  ·have i1:(k:Int)<(s.args.length:Int):=by omega
   obtain ⟨g,sA,sc,rfl,hgb,hgl,hfz,c0,c1,c2,c3,c4,c5,c6,c7,hsub⟩:=HAR.out.get k (by rw [mix_len _ _ (by omega)];exact hlt)
   rw [mix_get s.args k hlt] at c0 c1 c2 c3 c4 c5 c6 c7 hsub
   have HSB:=LH hsub
   have HB0:=LH (HRB.out k hlt HPRE.out)
   have HT0:Hid ((renAr s.args[k]).2=0->∀ j (hj:j<s.args.length),j<k+1->(renAr s.args[j]).2=0):=LH (fun h j hj hjk=>by
    by_cases e:j=k
    ·subst e;exact h
    ·exact HPRE.out j hj (by omega))
   have HMS:=LH (mix_step s.args k hlt)
   have HMK:=LH (mix_skip s.args k hlt)
   have HGE:=LH (mix_get s.args k hlt)
   have hfe:=HFE.out k hlt
   have HRR:=LH (HRT1.out s.args[k] (List.getElem_mem hlt))
   have hfz4:=hfz (k * 8+4)
   have hfz5:=hfz (k * 8+4+1)
   have hfz6:=hfz (k * 8+4+2)
   have hfz7:=hfz (k * 8+4+3)
   have HFZ:=LH hfz
   generalize s.args[k]=a at *
   clear hsub hfz
   have BA:=LH (bra wr (.cells #[Sx a.w,Sx a.t,.bool a.is,.bool a.mem,Sx a.e.op,.int .u16 a.e.n,Sx a.e.name,.slice sA a.e.sub.length sc] 36))
   by_cases hw:a.w = []
   ·cases his:a.is with
    | true=>
     have hra:renAr a=(a,0):=by unfold renAr;rw [if_pos (.inr his)]
     have HSK:=LH (HMK.out (by rw [hra]))
     have HT:=LH (HT0.out (by rw [hra]))
     rw [his] at BA c2
     rw [hw] at BA c0
     clear hw his hra HMS HMK HT0 HB0 HGE hfe HRR
     go_wp2_with fail
     go_roundw
     case rel=>exact ⟨k+1,by omega,by go_num,us,by rw [HSK.out];exact HAR.out.bel BA.out,HT.out,(BA.out.block _ hwb).trans KW.out,bthen BW.out BA.out,(BA.out.block _ (by omega)).trans P0.out,(BA.out.block _ (by omega)).trans P1.out⟩
     case measure=>simp [intOf];omega
    | false=>
     have hra:renAr a=(⟨a.w,a.t,a.is,a.mem,(renE a.e).1⟩,(renE a.e).2):=by unfold renAr;rw [if_neg (by simp [hw,his])]
     have hright:=HRR.out hw his
     have HNA:=LH (fun W (hW:Below wr.heap.size wr W)=>names_any a.e 24 (.slice sA a.e.sub.length sc) W hright hfe (hg.below (bthen BW.out hW)) (HSB.out.keep (fun p hp=>hW.cell hp.1.1) (fun q hq=>Nat.lt_of_lt_of_le hq.1.1 hW.size)))
     unfold exV at HNA
     rw [hra] at HMS HT0 HB0
     simp only at HMS HT0 HB0
     generalize renE a.e=ne at *
     obtain ⟨e1,ek⟩:=ne
     simp only at HMS HT0 HB0
     rw [his] at BA c2
     rw [hw] at BA c0
     clear hra HMK hright hfe HRR
     have HWA:=LH hw
     have HIA:=LH his
     clear hw his
     go_wp2_with fail
     go_region_with (first | (refine (HNA.out _ BA.out.drew).mono ?_;rintro e w5 ⟨u,rfl,hsu,hb5⟩;obtain ⟨uA,uc,rfl,_,_⟩:=hsu.form;unfold exV;simp only at hsu ⊢;have HSU:=LH hsu;clear hsu;have Y3:=(hb5.cell (p:=⟨w1.heap.size,3,none⟩) (by show w1.heap.size<(wr.alloc _).heap.size;simp;omega)).trans ((BA.out.drew.cell (p:=⟨w1.heap.size,3,none⟩) hwb).trans y3);have Z4:=(hb5.cell (p:=⟨g,k * 8+4,none⟩) (by show g<(wr.alloc _).heap.size;simp;omega)).trans ((BA.out.drew.cell (p:=⟨g,k * 8+4,none⟩) hgl).trans c4);have F4:=(hb5.frozen (p:=⟨g,k * 8+4,none⟩) (by show g<(wr.alloc _).heap.size;simp;omega)).trans ((BA.out.drew.frozen (p:=⟨g,k * 8+4,none⟩) hgl).trans hfz4);have Z5:=(hb5.cell (p:=⟨g,k * 8+4+1,none⟩) (by show g<(wr.alloc _).heap.size;simp;omega)).trans ((BA.out.drew.cell (p:=⟨g,k * 8+4+1,none⟩) hgl).trans c5);have F5:=(hb5.frozen (p:=⟨g,k * 8+4+1,none⟩) (by show g<(wr.alloc _).heap.size;simp;omega)).trans ((BA.out.drew.frozen (p:=⟨g,k * 8+4+1,none⟩) hgl).trans hfz5);have Z6:=(hb5.cell (p:=⟨g,k * 8+4+2,none⟩) (by show g<(wr.alloc _).heap.size;simp;omega)).trans ((BA.out.drew.cell (p:=⟨g,k * 8+4+2,none⟩) hgl).trans c6);have F6:=(hb5.frozen (p:=⟨g,k * 8+4+2,none⟩) (by show g<(wr.alloc _).heap.size;simp;omega)).trans ((BA.out.drew.frozen (p:=⟨g,k * 8+4+2,none⟩) hgl).trans hfz6);have Z7:=(hb5.cell (p:=⟨g,k * 8+4+3,none⟩) (by show g<(wr.alloc _).heap.size;simp;omega)).trans ((BA.out.drew.cell (p:=⟨g,k * 8+4+3,none⟩) hgl).trans c7);have F7:=(hb5.frozen (p:=⟨g,k * 8+4+3,none⟩) (by show g<(wr.alloc _).heap.size;simp;omega)).trans ((BA.out.drew.frozen (p:=⟨g,k * 8+4+3,none⟩) hgl).trans hfz7)))
     all_goals (
      have B5:=LH (bthen BA.out.drew hb5)
      have hz5:wr.heap.size<w5.heap.size:=by have:=hb5.size;simp at this;omega
      have HAR5:=LH ((HAR.out.bel B5.out).upd' k (by rw [mix_len _ _ (by omega)];exact hlt) e1 (.slice uA e1.sub.length uc) (HSU.out.keep (fun _ _=>rfl) (fun q hq=>⟨⟨hq.2,by have:=hq.1;simp at this;omega⟩,by have:=hq.1;simp at this;omega⟩)))
      have K9:=LH (show ((((w5.setCell ⟨g,k * 8+4,none⟩ (Sx e1.op)).setCell ⟨g,k * 8+4+1,none⟩ (.int .u16 e1.n)).setCell ⟨g,k * 8+4+2,none⟩ (Sx e1.name)).setCell ⟨g,k * 8+4+3,none⟩ (.slice uA e1.sub.length uc)).heap[w1.heap.size]? = _ from ((blk_off (by omega)).trans ((blk_off (by omega)).trans ((blk_off (by omega)).trans (blk_off (by omega))))).trans ((B5.out.block _ hwb).trans KW.out))
      have P09:=LH (show ((((w5.setCell ⟨g,k * 8+4,none⟩ (Sx e1.op)).setCell ⟨g,k * 8+4+1,none⟩ (.int .u16 e1.n)).setCell ⟨g,k * 8+4+2,none⟩ (Sx e1.name)).setCell ⟨g,k * 8+4+3,none⟩ (.slice uA e1.sub.length uc)).heap[w.heap.size]? = _ from ((blk_off (by omega)).trans ((blk_off (by omega)).trans ((blk_off (by omega)).trans (blk_off (by omega))))).trans ((B5.out.block _ (by omega)).trans P0.out))
      have P19:=LH (show ((((w5.setCell ⟨g,k * 8+4,none⟩ (Sx e1.op)).setCell ⟨g,k * 8+4+1,none⟩ (.int .u16 e1.n)).setCell ⟨g,k * 8+4+2,none⟩ (Sx e1.name)).setCell ⟨g,k * 8+4+3,none⟩ (.slice uA e1.sub.length uc)).heap[w.heap.size+1]? = _ from ((blk_off (by omega)).trans ((blk_off (by omega)).trans ((blk_off (by omega)).trans (blk_off (by omega))))).trans ((B5.out.block _ (by omega)).trans P1.out))
      have B9:Hid (Below w.heap.size w ((((w5.setCell ⟨g,k * 8+4,none⟩ (Sx e1.op)).setCell ⟨g,k * 8+4+1,none⟩ (.int .u16 e1.n)).setCell ⟨g,k * 8+4+2,none⟩ (Sx e1.name)).setCell ⟨g,k * 8+4+3,none⟩ (.slice uA e1.sub.length uc))):=LH (((((bthen BW.out B5.out).setCell (by show w.heap.size<=g;omega) _).setCell (by show w.heap.size<=g;omega) _).setCell (by show w.heap.size<=g;omega) _).setCell (by show w.heap.size<=g;omega) _)
      have hw9:w.heap.size+1<w5.heap.size:=by omega
      rw [HGE.out] at HAR5
      rw [← HMS.out] at HAR5
      clear hb5 HSU B5 Y3 Z4 Z5 Z6 Z7 F4 F5 F6 F7
      go_simp
      generalize ((((w5.setCell ⟨g,k * 8+4,none⟩ (Sx e1.op)).setCell ⟨g,k * 8+4+1,none⟩ (.int .u16 e1.n)).setCell ⟨g,k * 8+4+2,none⟩ (Sx e1.name)).setCell ⟨g,k * 8+4+3,none⟩ (.slice uA e1.sub.length uc))=w9 at *
      obtain ⟨⟨z0,z1,z2,z3⟩,g0,g1,g2,g3⟩:=four P19.out
      by_cases hek:ek=0
      ·subst hek
       have HT:=LH (HT0.out rfl)
       clear HMS HT0 HB0 HGE HNA
       go_wp2_with fail
       go_roundw
       case rel=>exact ⟨k+1,by omega,by go_num,_,HAR5.out,HT.out,K9.out,B9.out,P09.out,P19.out⟩
       case measure=>simp [intOf];omega
      ·have e5:((ek:Int) != 0)=true:=by rw [bne_iff_ne];omega
       have hres:=HRW2.out.trans (if_pos (by rw [HB0.out hek];exact hek))
       rw [HB0.out hek] at hres
       have HX:=LH hres
       clear hres HB0 HMS HT0 HGE HNA hek
       go_wp2_with fail
       refine bodyPost_ret (v:=.tuple #[.agg #[Sn,Bf,Sn,Zs],.int .i64 ek]) (by simp [results,Tryz.results6,go_sem,z0,z1,z2,z3]) rfl ?_
       exact StmtP.bad ek HX.out ((((B9.out.setCell (Nat.le_succ _) _).setCell (Nat.le_succ _) _).setCell (Nat.le_succ _) _).setCell (Nat.le_succ _) _))
   ·have hra:renAr a=(a,0):=by unfold renAr;rw [if_pos (.inl hw)]
    have HSK:=LH (HMK.out (by rw [hra]))
    have HT:=LH (HT0.out (by rw [hra]))
    have e1:(a.w != [])=true:=by simpa using hw
    have e2:=str_ne hw
    clear hw hra HMS HMK HT0 HB0 HGE hfe HRR
    go_wp2_with fail
    go_roundw
    case rel=>exact ⟨k+1,by omega,by go_num,us,by rw [HSK.out];exact HAR.out.bel BA.out,HT.out,(BA.out.block _ hwb).trans KW.out,bthen BW.out BA.out,(BA.out.block _ (by omega)).trans P0.out,(BA.out.block _ (by omega)).trans P1.out⟩
    case measure=>simp [intOf];omega
  ·obtain rfl:k=s.args.length:=by omega
   have HRS:Hid (renS s=⟨lab,s.colon,s.op,mixA s.args s.args.length⟩):=LH (by unfold renS;rw [HRN.out,HRA.out (fun j hj=>HPRE.out j hj hj),mix_full])
   have HRW3:=LH (HRW2.out.trans (if_neg (by rw [HRA.out (fun j hj=>HPRE.out j hj hj)];simp)))
   obtain ⟨⟨x0,x1,x2,x3⟩,f0,f1,f2,f3⟩:=four P0.out
   have HGW:=LH (hg.below BW.out.drew).2
   have HOKA:Hid (∀ a∈mixA s.args s.args.length,okE a.e):=LH (by
    rw [mix_full]
    intro a ha
    obtain ⟨b,hb,rfl⟩:=List.mem_map.1 ha
    obtain ⟨j,hj,rfl⟩:=List.getElem_of_mem hb
    unfold renAr
    split
    ·exact okE_of (HFE.out j hj)
    ·exact renE_ok (HFE.out j hj))
   have hml:(mixA s.args s.args.length).length<=1000:=by rw [mix_len _ _ (Nat.le_refl _)];omega
   have HRAT:=LH (HAR.out.arAt (fun g hgg=>by omega))
   rw [HRS.out] at HRW3
   have x2a:=fun (W:World) (hW:Below wr.heap.size wr W)=>(hW.cell (p:=⟨w.heap.size,2,none⟩) (by show w.heap.size<wr.heap.size;omega)).trans x2
   have X2A:=LH x2a
   obtain ⟨db,hdb⟩:∃ db,db=decide (s.op∈dirOps):=⟨_,rfl⟩
   have HDB:=LH hdb
   have HCT:Hid (∀ (g:Nat) (W:World),(∀ j (hj:j<dirOps.length),W.cell? ⟨g,j,none⟩=some (Sx dirOps[j]))->Calls Tryz.prog 16 #[.slice (some ⟨g,0,none⟩) 10 10,Sx s.op] W fun e w'=>e=.returned (.bool db)/\W=w'):=LH (fun g W hc=>by rw [hdb];exact contains_any dirOps s.op g 10 W rfl (by decide) hc)
   clear hdb
   have BD0:=LH ((Below.refl wr.heap.size wr).drew.alloc (Nat.le_refl _) (.cells (dirOps.map strV).toArray 9))
   clear HRW2 HRA HRB HPRE HFE HRT1 HRN x2a
   go_wp2_with fail
   go_region_with (first | (refine (splitD_any _ HGW.out).mono ?_;rintro e w5 ⟨rfl,hw5⟩;have DC:=dir_cells wr.drew;rw [← hw5] at DC;have BD:=BD0;rw [← hw5] at BD;have X2:=X2A.out w5 BD.out;clear hw5) | (refine (HCT.out _ _ DC).mono ?_;rintro e w6 ⟨rfl,rfl⟩))
   all_goals (
    have B5:=LH (bthen BW.out BD.out)
    have K5:=LH ((BD.out.block _ hwb).trans KW.out)
    have Q0:=LH ((BD.out.block w.heap.size (by omega)).trans P0.out)
    have Q1:=LH ((BD.out.block (w.heap.size+1) (by omega)).trans P1.out)
    have HRAT5:=LH (HRAT.out.keep (S':=fun g=>g<w5.heap.size/\g≠w1.heap.size) (fun p hp=>BD.out.cell hp.1) (fun g hgg=>⟨Nat.lt_of_lt_of_le hgg.1 BD.out.size,hgg.2⟩))
    have hw5:w1.heap.size<w5.heap.size:=loh K5.out
    have hw51:w.heap.size+1<w5.heap.size:=by omega
    have hw50:w.heap.size<w5.heap.size:=by omega
    clear X2 DC BD BD0 HGW HRAT
    go_simp
    obtain ⟨⟨y0,y1,y2,y3⟩,h0,h1,h2,h3⟩:=four K5.out
    obtain ⟨⟨x0,x1,x2,x3⟩,f0,f1,f2,f3⟩:=four Q0.out
    obtain ⟨⟨z0,z1,z2,z3⟩,g0,g1,g2,g3⟩:=four Q1.out
    cases db with
    | true=>
     have hd:s.op∈dirOps:=by simpa using HDB.out.symm
     have HRW4:=LH (HRW3.out.trans (if_neg (fun h=>h hd)))
     have HCF:=LH (contA_gen (fun a=>a.w != []) s.args (.slice A s.args.length c) 20 #[] w5 ⟨wstmt1_enter,fun a v W2 _ _ h3=>wstmt1_any a v W2 h3⟩ (HS.out.at B5.out B5.out.size))
     generalize s.args.any (fun a=>a.w != [])=an at *
     clear HRW3 hd HOKA HDB
     go_wp2_with fail
     refine HCF.out.mono ?_
     rintro e w6 ⟨rfl,hb6⟩
     have B6:=LH (bthen B5.out hb6)
     have K6:=LH ((hb6.block w1.heap.size hw5).trans K5.out)
     have Q6:=LH ((hb6.block (w.heap.size+1) hw51).trans Q1.out)
     have HRAT6:=LH ((HRAT5.out.keep (S':=fun g=>g<w6.heap.size/\g≠w1.heap.size) (fun p hp=>hb6.cell hp.1) (fun g hgg=>⟨Nat.lt_of_lt_of_le hgg.1 hb6.size,hgg.2⟩)).offS Q6.out)
     clear hb6 HCF y0 y1 y2 y3 h0 h1 h2 h3 x0 x1 x2 x3 f0 f1 f2 f3 z0 z1 z2 z3 g0 g1 g2 g3
     obtain ⟨⟨y0,y1,y2,y3⟩,h0,h1,h2,h3⟩:=four K6.out
     obtain ⟨⟨z0,z1,z2,z3⟩,g0,g1,g2,g3⟩:=four Q6.out
     cases an with
     | true=>
      have HX:=LH (HRW4.out.trans (if_pos rfl))
      clear HRW4
      go_wp2_with fail
      refine bodyPost_ret (v:=.tuple #[.agg #[Sn,Bf,Sn,Zs],.int .i64 2]) (by simp [results,Tryz.results6,go_sem,z0,z1,z2,z3]) rfl ?_
      exact StmtP.bad 2 HX.out ((((B6.out.setCell (Nat.le_succ _) _).setCell (Nat.le_succ _) _).setCell (Nat.le_succ _) _).setCell (Nat.le_succ _) _)
     | false=>
      have HX:=LH (HRW4.out.trans (if_neg (by simp)))
      clear HRW4
      go_wp2_with fail
      refine bodyPost_ret (v:=.tuple #[.agg #[Sx lab,.bool s.colon,Sx s.op,.slice GA s.args.length gc],.int .i64 0]) (by simp [results,Tryz.results6,go_sem,z0,z1,z2,z3]) rfl ?_
      rw [HX.out]
      refine ⟨.slice GA s.args.length gc,rfl,?_,(((B6.out.setCell (Nat.le_succ _) _).setCell (Nat.le_succ _) _).setCell (Nat.le_succ _) _).setCell (Nat.le_succ _) _⟩
      exact ((((HRAT6.out.putOff (fun g hgg=>hgg.2) 0 _).putOff (fun g hgg=>hgg.2) 1 _).putOff (fun g hgg=>hgg.2) 2 _).putOff (fun g hgg=>hgg.2) 3 _).more (fun g hgg=>by simpa using hgg.1.1)
    | false=>
     have hd:s.op∉dirOps:=by simpa using HDB.out.symm
     have HRW4:=LH (HRW3.out.trans (if_pos hd))
     have HTU:=LH (wturn_any w1.heap.size ⟨lab,s.colon,s.op,mixA s.args s.args.length⟩ (.slice GA s.args.length gc) w5 (hg.below B5.out) K5.out HRAT5.out hml HOKA.out)
     generalize turnRw ⟨lab,s.colon,s.op,mixA s.args s.args.length⟩=tr at *
     obtain ⟨ts,tk⟩:=tr
     simp only at HRW4
     clear HRW3 hd HOKA HDB
     go_wp2_with fail
     refine HTU.out.mono ?_
     rintro e w6 ⟨rfl,ht6,hr6⟩
     have B6:=LH (B5.out.trans (ht6.below w.heap.size (fun k hk=>by simp at hk;omega) (by omega)))
     have Q6:=LH ((ht6.2.2.1 (w.heap.size+1) hw51 (by simp;omega)).trans Q1.out)
     have HR6:=LH hr6
     clear ht6 hr6 HTU y0 y1 y2 y3 h0 h1 h2 h3 x0 x1 x2 x3 f0 f1 f2 f3 z0 z1 z2 z3 g0 g1 g2 g3
     obtain ⟨⟨z0,z1,z2,z3⟩,g0,g1,g2,g3⟩:=four Q6.out
     simp only
     by_cases htk:tk=0
     ·subst htk
      have HX:=LH (HRW4.out.trans (if_neg (by simp)))
      obtain ⟨v6,hwk,hat⟩:=HR6.out (by first | rfl | trivial)
      obtain ⟨VA,vc,rfl,_,_⟩:=hat.form
      simp only at hwk hat
      have HAT6:=LH (hat.offS Q6.out)
      unfold WkAt at hwk
      obtain ⟨⟨y0,y1,y2,y3⟩,h0,h1,h2,h3⟩:=four hwk
      clear HRW4 HR6 hwk hat
      go_wp2_with fail
      refine bodyPost_ret (v:=.tuple #[.agg #[Sx ts.label,.bool ts.colon,Sx ts.op,.slice VA ts.args.length vc],.int .i64 0]) (by simp [results,Tryz.results6,go_sem,z0,z1,z2,z3]) rfl ?_
      rw [HX.out]
      refine ⟨.slice VA ts.args.length vc,rfl,?_,(((B6.out.setCell (Nat.le_succ _) _).setCell (Nat.le_succ _) _).setCell (Nat.le_succ _) _).setCell (Nat.le_succ _) _⟩
      exact ((((HAT6.out.putOff (fun g hgg=>hgg.2) 0 _).putOff (fun g hgg=>hgg.2) 1 _).putOff (fun g hgg=>hgg.2) 2 _).putOff (fun g hgg=>hgg.2) 3 _).more (fun g hgg=>by simpa using hgg.1.1)
     ·have e5:((tk:Int) != 0)=true:=by rw [bne_iff_ne];omega
      have HX:=LH (HRW4.out.trans (if_pos htk))
      clear HRW4 HR6 htk
      go_wp2_with fail
      refine bodyPost_ret (v:=.tuple #[.agg #[Sn,Bf,Sn,Zs],.int .i64 tk]) (by simp [results,Tryz.results6,go_sem,z0,z1,z2,z3]) rfl ?_
      exact StmtP.bad tk HX.out ((((B6.out.setCell (Nat.le_succ _) _).setCell (Nat.le_succ _) _).setCell (Nat.le_succ _) _).setCell (Nat.le_succ _) _))
end Go.Proofs.YtijgppokofganaaGreatDoor
