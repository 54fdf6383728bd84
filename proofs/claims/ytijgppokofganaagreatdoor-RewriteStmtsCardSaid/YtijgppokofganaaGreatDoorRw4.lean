/- Rw4. -/
import Derived.Test.YtijgppokofganaaGreatDoorXm
import Derived.Test.YtijgppokofganaaGreatDoorXe
import Derived.Deep.RegionWith
import Derived.Lib.QuietBelow
namespace Go.Proofs.YtijgppokofganaaGreatDoor
open Go.RowKit
def numRw (k:Nat):List UInt8:=if k=0 then [] else if k=1 then sD8 else sD16
theorem idx3_0 (w:World):(Instr.index 138 (.agg #[.string ⟨#[]⟩,.string ⟨#[100,56]⟩,.string ⟨#[100,49,54]⟩]) (.int .i64 0)).run Tryz.prog w=.ok (.string ⟨#[]⟩) w:=by kernel_rfl
theorem idx3_1 (w:World):(Instr.index 138 (.agg #[.string ⟨#[]⟩,.string ⟨#[100,56]⟩,.string ⟨#[100,49,54]⟩]) (.int .i64 1)).run Tryz.prog w=.ok (.string ⟨#[100,56]⟩) w:=by kernel_rfl
theorem idx3_2 (w:World):(Instr.index 138 (.agg #[.string ⟨#[]⟩,.string ⟨#[100,56]⟩,.string ⟨#[100,49,54]⟩]) (.int .i64 2)).run Tryz.prog w=.ok (.string ⟨#[100,49,54]⟩) w:=by kernel_rfl
theorem idx3 (k:Nat) (hk:k<3):∀ (w:World),(Instr.index 138 (.agg #[.string ⟨#[]⟩,.string ⟨#[100,56]⟩,.string ⟨#[100,49,54]⟩]) (.int .i64 (k:Int))).run Tryz.prog w=.ok (.string ⟨(numRw k).toArray⟩) w:=by
 have h3:k=0∨k=1∨k=2:=by omega
 rcases h3 with rfl | rfl | rfl
 ·exact idx3_0
 ·exact idx3_1
 ·exact idx3_2
theorem opcodeRw_no (s:St) (h:∀ j,j<3->tryRw s (numRw j)=none):opcodeRw s=none:=by
 have h0:=h 0 (by decide)
 have h1:=h 1 (by decide)
 have h2:=h 2 (by decide)
 unfold opcodeRw
 simp only [numRw] at h0 h1 h2
 simp at h0 h1 h2
 rw [h0]
 simp only
 rw [h1]
 exact h2
theorem opcodeRw_yes (s:St) (k:Nat) (hk:k<3) (h:∀ j,j<k->tryRw s (numRw j)=none) (op:Nat) (ho:tryRw s (numRw k)=some op):opcodeRw s=some op:=by
 unfold opcodeRw
 have h3:k=0∨k=1∨k=2:=by omega
 rcases h3 with rfl | rfl | rfl
 ·simp [numRw] at ho;rw [ho]
 ·have h0:=h 0 (by decide)
  simp [numRw] at ho h0
  rw [h0];simp only;rw [ho]
 ·have h0:=h 0 (by decide)
  have h1:=h 1 (by decide)
  simp [numRw] at ho h0 h1
  rw [h0];simp only;rw [h1];exact ho
theorem eI_nonneg (o:Option Nat) (h:o.isSome=true):0<=eI o:=by
 cases o with
 | none=>cases h
 | some k=>exact Int.natCast_nonneg k
theorem eI_neg (o:Option Nat) (h:o.isSome=false):eI o = -1:=by
 cases o with
 | none=>rfl
 | some k=>cases h
set_option maxHeartbeats 8000000 in
set_option maxRecDepth 100000 in
theorem wopcode_any (s:St) (v:Value) (w:World) (hs:ArAt w (· < w.heap.size) v s.args) (hl:s.args.length<=1000) :
  Calls Tryz.prog 47 #[stV s v] w fun e w'=>e=.returned (.tuple #[.int .u8 (findP (opcodeRw s)).1,.bool (findP (opcodeRw s)).2])/\Below w.heap.size w w':=by
 have HW:=LH (fun num W (hW:Below w.heap.size w W)=>wwords_any num s v W (hs.at hW hW.size) hl)
 have HN:=LH (fun W (hW:Below w.heap.size w W)=>wnumber_any s v W (hs.at hW hW.size))
 have HFI:=LH (fun num u W (hr:RdS W W.heap.size u (wordsRw num s.args))=>find80_any s.op (wordsRw num s.args) u W hr (by unfold wordsRw;rw [List.length_map];exact hl))
 have HSZ:=LH (fun op (h:op<256) W=>size80_any op h W)
 have HNO:=LH (opcodeRw_no s)
 have HYES:=LH (opcodeRw_yes s)
 have HTR:Hid (∀ num,tryRw s num=match find80 s.op (wordsRw num s.args) with
   | some op=>if (1<size80 op)=((exprPos s.args).isSome=true) then some op else none
   | none=>none):=LH (fun _=>rfl)
 have HLT:=LH (fun num op (h:find80 s.op (wordsRw num s.args)=some op)=>find80_lt h)
 obtain ⟨A,c,rfl,hc,_⟩:=hs.form
 obtain ⟨lab,colon,op0,l⟩:=s
 have HPI:=LH (eI_nonneg (exprPos l))
 have HPJ:=LH (eI_neg (exprPos l))
 unfold stV at *
 simp only at *
 generalize eI (exprPos l)=ep at *
 generalize (exprPos l).isSome=eb at *
 generalize opcodeRw ⟨lab,colon,op0,l⟩=res at *
 clear hs
 have B0:=LH (bra w (.cells #[Sx lab,.bool colon,Sx op0,.slice A l.length c] 46))
 have O0:=LH (heap_alloc_new w (.cells #[Sx lab,.bool colon,Sx op0,.slice A l.length c] 46))
 go_enter Tryz.func47, Tryz.ntmps47
 go_wp2_with fail
 go_loopw [9] (fun i wr=>∃ k:Nat,k<=3/\i=.int .i64 k/\Below w.heap.size w wr/\wr.heap[w.heap.size]? = some (.cells #[Sx lab,.bool colon,Sx op0,.slice A l.length c] 46 (0,0))/\∀ j,j<k->tryRw ⟨lab,colon,op0,l⟩ (numRw j)=none) (fun i _=>3 - (intOf i).toNat)
 case atStart=>exact ⟨0,Nat.zero_le _,rfl,B0.out,O0.out,fun j hj=>absurd hj (by omega)⟩
 case round=>
  obtain ⟨k,hk,rfl,hbw,ho,hno⟩:=hrel
  have BW:=LH hbw
  have OW:=LH ho
  have NO:=LH hno
  have x0:=coh (i:=0) ho
  have x1:=coh (i:=1) ho
  have x2:=coh (i:=2) ho
  have x3:=coh (i:=3) ho
  simp at x0 x1 x2 x3
  clear hbw ho hno
  by_cases hlt:k<3
  ·have i1:(k:Int)<3:=by omega
   have hidx:=idx3 k hlt
   have HTK:=LH (HTR.out (numRw k))
   have HWK:=LH (HW.out (numRw k))
   have HFK:=LH (HFI.out (numRw k))
   have HLK:=LH (HLT.out (numRw k))
   have NO2:Hid (tryRw ⟨lab,colon,op0,l⟩ (numRw k)=none->∀ j,j<k+1->tryRw ⟨lab,colon,op0,l⟩ (numRw j)=none):=LH (fun h j hj=>by
    by_cases e:j=k
    ·subst e;exact h
    ·exact NO.out j (by omega))
   have YES:=LH (HYES.out k hlt NO.out)
   generalize tryRw ⟨lab,colon,op0,l⟩ (numRw k)=tr at *
   generalize wordsRw (numRw k) l=ws at *
   generalize numRw k=num at *
   clear HW HFI HLT HTR HYES HNO NO
   cases hf:find80 op0 ws with
   | none=>
    rw [hf] at HFK HTK
    unfold findP at HFK
    simp only at HFK HTK
    clear hf
    go_wp2_with fail
    go_region_with (first | (refine (HWK.out _ BW.out.drew).mono ?_;rintro e w4 ⟨u,rfl,hu,hb4⟩;have HU:=LH hu;clear hu;have y2:=(hb4.cell (p:=⟨w.heap.size,2,none⟩) (loh OW.out)).trans x2) | (refine (HFK.out _ _ HU.out).mono ?_;rintro e w5 ⟨rfl,hb5⟩))
    all_goals (
     have B5:=LH (bthen (bthen BW.out.drew hb4) hb5)
     have O5:=LH ((hb5.block w.heap.size (Nat.lt_of_lt_of_le (loh OW.out) hb4.size)).trans ((hb4.block w.heap.size (loh OW.out)).trans OW.out))
     have h0:=cell_regrown (coh (i:=0) O5.out)
     have h1:=cell_regrown (coh (i:=1) O5.out)
     have h2:=cell_regrown (coh (i:=2) O5.out)
     have h3:=cell_regrown (coh (i:=3) O5.out)
     simp at h0 h1 h2 h3
     clear hb4 hb5 y2 HU
     go_simp
     go_wp2_with fail
     refine wp_region_quiet_below (by kernel_rfl) (by kernel_rfl) ?_
     repeat (quiet_step (fail))
     refine wpQuiet_nil ?_
     intro _ hw'
     obtain ⟨⟨dq,osq⟩,hw''⟩:=hw'
     subst hw''
     have B6:=LH (bthen B5.out (below_regrown w5 dq osq))
     have O6:=LH (((below_regrown w5 dq osq).block w.heap.size (loh O5.out)).trans O5.out)
     clear h0 h1 h2 h3
     go_wp2_with fail
     go_roundw
     case rel=>exact ⟨k+1,by omega,by go_num,B6.out,O6.out,NO2.out HTK.out⟩
     case measure=>simp [intOf];omega)
   | some op=>
    rw [hf] at HFK HTK
    unfold findP at HFK
    simp only at HFK HTK
    have HSZ2:=LH (HSZ.out op (HLK.out op hf))
    generalize size80 op=sz at *
    clear hf HSZ HLK
    by_cases hs1:1<sz
    ·cases eb with
     | true=>
      have e1:(1:Int)<(sz:Int):=by omega
      have e2:0<=ep:=HPI.out rfl
      have RES:=LH (YES.out op (HTK.out.trans (if_pos (by simp [hs1]))))
      clear hs1 YES NO2 HTK HPI HPJ
      go_wp2_with fail
      go_region_with (first | (refine (HWK.out _ BW.out.drew).mono ?_;rintro e w4 ⟨u,rfl,hu,hb4⟩;have HU:=LH hu;clear hu;have y2:=(hb4.cell (p:=⟨w.heap.size,2,none⟩) (loh OW.out)).trans x2) | (refine (HFK.out _ _ HU.out).mono ?_;rintro e w5 ⟨rfl,hb5⟩))
      all_goals (
       have B5:=LH (bthen (bthen BW.out.drew hb4) hb5)
       have O5:=LH ((hb5.block w.heap.size (Nat.lt_of_lt_of_le (loh OW.out) hb4.size)).trans ((hb4.block w.heap.size (loh OW.out)).trans OW.out))
       have h0:=cell_regrown (coh (i:=0) O5.out)
       have h1:=cell_regrown (coh (i:=1) O5.out)
       have h2:=cell_regrown (coh (i:=2) O5.out)
       have h3:=cell_regrown (coh (i:=3) O5.out)
       have cS:∀ d' os,Calls Tryz.prog 99 #[.int .u8 op] (Go.Sort.grow (redrawn w5 d') os) fun e w''=>e=.returned (.int .i64 sz)/\∃ p:Regrown,w''=Go.Sort.grow (redrawn w5 p.d) p.os:=fun d' os=>Calls.regrown_of (HSZ2.out _)
       have cN:∀ d' os,Calls Tryz.prog 45 #[.agg #[Sx lab,.bool colon,Sx op0,.slice A l.length c]] (Go.Sort.grow (redrawn w5 d') os) fun e w''=>e=.returned (.int .i64 ep)/\∃ p:Regrown,w''=Go.Sort.grow (redrawn w5 p.d) p.os:=fun d' os=>Calls.regrown_of (HN.out _ (bthen B5.out (below_regrown w5 d' os)))
       simp at h0 h1 h2 h3
       have CS:=LH cS
       have CN:=LH cN
       clear cS cN hb4 hb5 y2 HU
       go_simp
       go_wp2_with fail
       refine wp_region_quiet_below (by kernel_rfl) (by kernel_rfl) ?_
       repeat (quiet_step (first | (go_at_call 99;exact CS.out _ _) | (go_at_call 45;exact CN.out _ _)))
       refine wpQuiet_nil ?_
       intro _ hw'
       obtain ⟨⟨dq,osq⟩,hw''⟩:=hw'
       subst hw''
       have B6:=LH (bthen B5.out (below_regrown w5 dq osq))
       have O6:=LH (((below_regrown w5 dq osq).block w.heap.size (loh O5.out)).trans O5.out)
       clear h0 h1 h2 h3
       go_wp2_with fail
       go_ret2
       rw [RES.out]
       exact ⟨rfl,B6.out⟩)
     | false=>
      have e1:(1:Int)<(sz:Int):=by omega
      have e2:decide (0<=ep)=false:=by rw [HPJ.out rfl];decide
      replace HTK:=LH (HTK.out.trans (if_neg (by simp [hs1])))
      clear hs1 YES HPI HPJ
      go_wp2_with fail
      go_region_with (first | (refine (HWK.out _ BW.out.drew).mono ?_;rintro e w4 ⟨u,rfl,hu,hb4⟩;have HU:=LH hu;clear hu;have y2:=(hb4.cell (p:=⟨w.heap.size,2,none⟩) (loh OW.out)).trans x2) | (refine (HFK.out _ _ HU.out).mono ?_;rintro e w5 ⟨rfl,hb5⟩))
      all_goals (
       have B5:=LH (bthen (bthen BW.out.drew hb4) hb5)
       have O5:=LH ((hb5.block w.heap.size (Nat.lt_of_lt_of_le (loh OW.out) hb4.size)).trans ((hb4.block w.heap.size (loh OW.out)).trans OW.out))
       have h0:=cell_regrown (coh (i:=0) O5.out)
       have h1:=cell_regrown (coh (i:=1) O5.out)
       have h2:=cell_regrown (coh (i:=2) O5.out)
       have h3:=cell_regrown (coh (i:=3) O5.out)
       have cS:∀ d' os,Calls Tryz.prog 99 #[.int .u8 op] (Go.Sort.grow (redrawn w5 d') os) fun e w''=>e=.returned (.int .i64 sz)/\∃ p:Regrown,w''=Go.Sort.grow (redrawn w5 p.d) p.os:=fun d' os=>Calls.regrown_of (HSZ2.out _)
       have cN:∀ d' os,Calls Tryz.prog 45 #[.agg #[Sx lab,.bool colon,Sx op0,.slice A l.length c]] (Go.Sort.grow (redrawn w5 d') os) fun e w''=>e=.returned (.int .i64 ep)/\∃ p:Regrown,w''=Go.Sort.grow (redrawn w5 p.d) p.os:=fun d' os=>Calls.regrown_of (HN.out _ (bthen B5.out (below_regrown w5 d' os)))
       simp at h0 h1 h2 h3
       have CS:=LH cS
       have CN:=LH cN
       clear cS cN hb4 hb5 y2 HU
       go_simp
       go_wp2_with fail
       refine wp_region_quiet_below (by kernel_rfl) (by kernel_rfl) ?_
       repeat (quiet_step (first | (go_at_call 99;exact CS.out _ _) | (go_at_call 45;exact CN.out _ _)))
       refine wpQuiet_nil ?_
       intro _ hw'
       obtain ⟨⟨dq,osq⟩,hw''⟩:=hw'
       subst hw''
       have B6:=LH (bthen B5.out (below_regrown w5 dq osq))
       have O6:=LH (((below_regrown w5 dq osq).block w.heap.size (loh O5.out)).trans O5.out)
       clear h0 h1 h2 h3
       go_wp2_with fail
       go_roundw
       case rel=>exact ⟨k+1,by omega,by go_num,B6.out,O6.out,NO2.out HTK.out⟩
       case measure=>simp [intOf];omega)
    ·cases eb with
     | true=>
      have e1:decide ((1:Int)<(sz:Int))=false:=by simp;omega
      have e2:0<=ep:=HPI.out rfl
      replace HTK:=LH (HTK.out.trans (if_neg (by simp [hs1])))
      clear hs1 YES HPI HPJ
      go_wp2_with fail
      go_region_with (first | (refine (HWK.out _ BW.out.drew).mono ?_;rintro e w4 ⟨u,rfl,hu,hb4⟩;have HU:=LH hu;clear hu;have y2:=(hb4.cell (p:=⟨w.heap.size,2,none⟩) (loh OW.out)).trans x2) | (refine (HFK.out _ _ HU.out).mono ?_;rintro e w5 ⟨rfl,hb5⟩))
      all_goals (
       have B5:=LH (bthen (bthen BW.out.drew hb4) hb5)
       have O5:=LH ((hb5.block w.heap.size (Nat.lt_of_lt_of_le (loh OW.out) hb4.size)).trans ((hb4.block w.heap.size (loh OW.out)).trans OW.out))
       have h0:=cell_regrown (coh (i:=0) O5.out)
       have h1:=cell_regrown (coh (i:=1) O5.out)
       have h2:=cell_regrown (coh (i:=2) O5.out)
       have h3:=cell_regrown (coh (i:=3) O5.out)
       have cS:∀ d' os,Calls Tryz.prog 99 #[.int .u8 op] (Go.Sort.grow (redrawn w5 d') os) fun e w''=>e=.returned (.int .i64 sz)/\∃ p:Regrown,w''=Go.Sort.grow (redrawn w5 p.d) p.os:=fun d' os=>Calls.regrown_of (HSZ2.out _)
       have cN:∀ d' os,Calls Tryz.prog 45 #[.agg #[Sx lab,.bool colon,Sx op0,.slice A l.length c]] (Go.Sort.grow (redrawn w5 d') os) fun e w''=>e=.returned (.int .i64 ep)/\∃ p:Regrown,w''=Go.Sort.grow (redrawn w5 p.d) p.os:=fun d' os=>Calls.regrown_of (HN.out _ (bthen B5.out (below_regrown w5 d' os)))
       simp at h0 h1 h2 h3
       have CS:=LH cS
       have CN:=LH cN
       clear cS cN hb4 hb5 y2 HU
       go_simp
       go_wp2_with fail
       refine wp_region_quiet_below (by kernel_rfl) (by kernel_rfl) ?_
       repeat (quiet_step (first | (go_at_call 99;exact CS.out _ _) | (go_at_call 45;exact CN.out _ _)))
       refine wpQuiet_nil ?_
       intro _ hw'
       obtain ⟨⟨dq,osq⟩,hw''⟩:=hw'
       subst hw''
       have B6:=LH (bthen B5.out (below_regrown w5 dq osq))
       have O6:=LH (((below_regrown w5 dq osq).block w.heap.size (loh O5.out)).trans O5.out)
       clear h0 h1 h2 h3
       go_wp2_with fail
       go_roundw
       case rel=>exact ⟨k+1,by omega,by go_num,B6.out,O6.out,NO2.out HTK.out⟩
       case measure=>simp [intOf];omega)
     | false=>
      have e1:decide ((1:Int)<(sz:Int))=false:=by simp;omega
      have e2:decide (0<=ep)=false:=by rw [HPJ.out rfl];decide
      have RES:=LH (YES.out op (HTK.out.trans (if_pos (by simp [hs1]))))
      clear hs1 YES NO2 HTK HPI HPJ
      go_wp2_with fail
      go_region_with (first | (refine (HWK.out _ BW.out.drew).mono ?_;rintro e w4 ⟨u,rfl,hu,hb4⟩;have HU:=LH hu;clear hu;have y2:=(hb4.cell (p:=⟨w.heap.size,2,none⟩) (loh OW.out)).trans x2) | (refine (HFK.out _ _ HU.out).mono ?_;rintro e w5 ⟨rfl,hb5⟩))
      all_goals (
       have B5:=LH (bthen (bthen BW.out.drew hb4) hb5)
       have O5:=LH ((hb5.block w.heap.size (Nat.lt_of_lt_of_le (loh OW.out) hb4.size)).trans ((hb4.block w.heap.size (loh OW.out)).trans OW.out))
       have h0:=cell_regrown (coh (i:=0) O5.out)
       have h1:=cell_regrown (coh (i:=1) O5.out)
       have h2:=cell_regrown (coh (i:=2) O5.out)
       have h3:=cell_regrown (coh (i:=3) O5.out)
       have cS:∀ d' os,Calls Tryz.prog 99 #[.int .u8 op] (Go.Sort.grow (redrawn w5 d') os) fun e w''=>e=.returned (.int .i64 sz)/\∃ p:Regrown,w''=Go.Sort.grow (redrawn w5 p.d) p.os:=fun d' os=>Calls.regrown_of (HSZ2.out _)
       have cN:∀ d' os,Calls Tryz.prog 45 #[.agg #[Sx lab,.bool colon,Sx op0,.slice A l.length c]] (Go.Sort.grow (redrawn w5 d') os) fun e w''=>e=.returned (.int .i64 ep)/\∃ p:Regrown,w''=Go.Sort.grow (redrawn w5 p.d) p.os:=fun d' os=>Calls.regrown_of (HN.out _ (bthen B5.out (below_regrown w5 d' os)))
       simp at h0 h1 h2 h3
       have CS:=LH cS
       have CN:=LH cN
       clear cS cN hb4 hb5 y2 HU
       go_simp
       go_wp2_with fail
       refine wp_region_quiet_below (by kernel_rfl) (by kernel_rfl) ?_
       repeat (quiet_step (first | (go_at_call 99;exact CS.out _ _) | (go_at_call 45;exact CN.out _ _)))
       refine wpQuiet_nil ?_
       intro _ hw'
       obtain ⟨⟨dq,osq⟩,hw''⟩:=hw'
       subst hw''
       have B6:=LH (bthen B5.out (below_regrown w5 dq osq))
       have O6:=LH (((below_regrown w5 dq osq).block w.heap.size (loh O5.out)).trans O5.out)
       clear h0 h1 h2 h3
       go_wp2_with fail
       go_ret2
       rw [RES.out]
       exact ⟨rfl,B6.out⟩)
  ·obtain rfl:k=3:=by omega
   have HX:=LH (HNO.out NO.out)
   go_wp2_with fail
   go_ret2
   rw [HX.out]
   exact ⟨rfl,BW.out⟩
end Go.Proofs.YtijgppokofganaaGreatDoor
