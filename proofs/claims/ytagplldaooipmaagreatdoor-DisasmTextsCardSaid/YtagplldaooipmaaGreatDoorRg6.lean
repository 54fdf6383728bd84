/- Rg6. -/
import Derived.Test.YtagplldaooipmaaGreatDoorWg
import Derived.Deep.RegionWith
import Derived.Deep.QuietTactic
import Derived.BigQuiet
import Derived.BigRegion
import Derived.Lib.QuietBelow
namespace Go.Proofs.YtagplldaooipmaaGreatDoor
open Go.RowKit
def p1R (d:Int) (s:St):Bool:=s.label == [] || plainB d s.label
def p2R (s:St):Bool:=(s.op == [] && s.args.length == 0) || (nameB s.op && upper s.op == s.op)
def p3R (s:St):Bool:=(!setsB s.op || !(s.label == [])) && (s.colon == (!(s.label == []) && !setsB s.op)) && decide (s.args.length ≤ 32)
theorem rightS_12 (d:Int) (s:St):rightS d s=if knownB d=false then 1 else if (p1R d s && p2R s && p3R s && s.args.all (rightA d s.op))=true then 0 else 2:=by
 obtain ⟨lab,colon,op,args⟩:=s
 unfold rightS p1R p2R p3R greatB
 simp only
 by_cases hk:knownB d=false
 ·rw [if_pos hk,if_pos hk]
 ·rw [if_neg hk,if_neg hk]
  generalize args.all (rightA d op)=al
  generalize plainB d lab=pb
  generalize setsB op=sb
  cases op with
  | nil=>
   cases lab <;> cases args <;> cases pb <;> cases sb <;> cases colon <;> cases al <;> simp [nameB]
  | cons c r=>
   generalize nameB (c :: r)=nb
   generalize (upper (c :: r) == c :: r)=ub
   by_cases hl:args.length ≤ 32
   ·have hl2:¬ 32 < args.length:=by omega
    cases lab <;> cases nb <;> cases ub <;> cases pb <;> cases sb <;> cases colon <;> cases al <;> simp [hl,hl2]
   ·have hl2:32 < args.length:=by omega
    cases lab <;> cases nb <;> cases ub <;> cases pb <;> cases sb <;> cases colon <;> cases al <;> simp [hl,hl2]
theorem box4 {w wr:World} {c0 c1 c2 c3:Value} {t:TypeId} (hb:Below (w.heap.size + 1) (w.alloc (.cells #[c0,c1,c2,c3] t)) wr) :
  wr.cell? ⟨w.heap.size,0,none⟩=some c0∧wr.cell? ⟨w.heap.size,1,none⟩=some c1∧wr.cell? ⟨w.heap.size,2,none⟩=some c2∧wr.cell? ⟨w.heap.size,3,none⟩=some c3:=
 cells4 ((hb.block w.heap.size (by omega)).trans (heap_alloc_new w _))
set_option maxHeartbeats 8000000 in
set_option maxRecDepth 100000 in
theorem rright12_any (d:Int) (s:St) (v:Value) (w:World) (hf:fitS s) (hs:ArAt w (· < w.heap.size) v s.args) :
  Calls Tryz.prog 46 #[.int .i64 d,stV s v] w fun e w'=>e=.returned (.int .i64 (rightS d s:Nat))∧Below w.heap.size w w':=by
 have HD:=Lib.hid (fun W=>(rdialect_any d W).mono fun _ _ h=>And.intro h.1 h.2.symm)
 have HP:=Lib.hid (fun W=>rplain_any d s.label W (by have:=hf.1;omega))
 have HN:=Lib.hid (fun W=>(refName_any s.op W (by have:=hf.2.1;omega)).mono fun _ _ h=>And.intro h.1 h.2.symm)
 have HU:=Lib.hid (fun W=>refUpper_any s.op W (by have:=hf.2.1;omega))
 have HFA:=Lib.hid hf.2.2
 have HS:=Lib.hid hs
 have HR:=Lib.hid (rightS_12 d s)
 generalize hres:rightS d s=res at *
 clear hres
 obtain ⟨A,c,rfl,hc,hm⟩:=hs.form
 unfold maxLen at hm
 clear hs hf hc
 obtain ⟨lab,colon,op,args⟩:=s
 unfold stV
 unfold p1R p2R p3R at HR
 simp only at *
 generalize plainB d lab=pl at *
 generalize hub:(upper op == op)=ub at *
 have HUB:=Lib.hid hub
 clear hub
 generalize nameB op=nb at *
 generalize upper op=uop at *
 cases hkn:knownB d
 ·rw [hkn] at HD HR
  have HX:Hid (res=1):=Lib.hid HR.out
  clear HR hkn
  go_enter Tryz.func46, Tryz.ntmps46
  go_wp2_with fail
  refine (HD.out _).mono ?_
  rintro e w1 ⟨rfl,rfl⟩
  go_wp2_with fail
  go_ret
  rw [HX.out]
  exact ⟨rfl,(Below.refl _ _).alloc (Nat.le_refl _) _⟩
 rw [hkn] at HD HR
 clear hkn
 go_enter Tryz.func46, Tryz.ntmps46
 go_wp2_with fail
 refine (HD.out _).mono ?_
 rintro e w1 ⟨rfl,rfl⟩
 go_upto_region 3 with (fail)
 have B0:=Lib.hid (Below.refl (w.heap.size + 1) (w.alloc (.cells #[.string ⟨lab.toArray⟩,.bool colon,.string ⟨op.toArray⟩,.slice A args.length c] 31)))
 obtain ⟨c0,c1,c2,c3⟩:=box4 B0.out
 go_cut [5] (fun v wx=>v=.bool (setsB op)∧Below (w.heap.size + 1) (w.alloc (.cells #[.string ⟨lab.toArray⟩,.bool colon,.string ⟨op.toArray⟩,.slice A args.length c] 31)) wx)
 case first=>
  by_cases h1:op=sEQU
  ·subst h1
   go_wp2_with fail
   go_meet
   exact ⟨rfl,B0.out⟩
  by_cases h2:op=sSET
  ·subst h2
   go_wp2_with fail
   go_meet
   exact ⟨rfl,B0.out⟩
  have hs0:Hid (setsB op=false):=Lib.hid (by unfold setsB;simp [h1,h2])
  have n1:=str_ne h1
  have n2:=str_ne h2
  clear h1 h2
  go_wp2_with fail
  go_meet
  exact ⟨by rw [hs0.out],B0.out⟩
 case rest=>
  obtain ⟨rfl,hb⟩:=hcut
  have B1:=Lib.hid hb
  obtain ⟨c0,c1,c2,c3⟩:=box4 hb
  clear hb B0
  generalize setsB op=sb at *
  go_upto_region 4 with (fail)
  go_cut [6] (fun v wx=>v=.bool (lab == [] || pl)∧Below (w.heap.size + 1) (w.alloc (.cells #[.string ⟨lab.toArray⟩,.bool colon,.string ⟨op.toArray⟩,.slice A args.length c] 31)) wx)
  case first=>
   by_cases h1:lab = []
   ·subst h1
    go_wp2_with fail
    go_meet
    exact ⟨rfl,B1.out⟩
   have n1:=str_ne h1
   have n1':lab.isEmpty=false:=by simpa using h1
   have N1:=Lib.hid n1
   clear h1
   go_wp2_with fail
   refine (HP.out _).mono ?_
   rintro e w2 ⟨rfl,hb2⟩
   go_wp2_with fail
   go_meet
   exact ⟨by rw [N1.out,Bool.false_or],B1.out.trans (hb2.mono (by have:=B1.out.size;simpa using this))⟩
  case rest=>
   obtain ⟨rfl,hb⟩:=hcut
   have B2:=Lib.hid hb
   have hz:w.heap.size < wc.heap.size:=by have:=hb.size;simp at this;omega
   obtain ⟨c0,c1,c2,c3⟩:=box4 hb
   clear hb B1
   generalize hp1:(lab == [] || pl)=p1 at *
   clear hp1
   go_upto_region 5 with (fail)
   go_cut [6] (fun v wx=>v=.bool (p1 && ((op == [] && args.length == 0) || (nb && ub)))∧Below (w.heap.size + 1) (w.alloc (.cells #[.string ⟨lab.toArray⟩,.bool colon,.string ⟨op.toArray⟩,.slice A args.length c] 31)) wx)
   case first=>
    cases p1
    ·go_quiet (fail)
     go_wp2_with fail
     go_meet
     exact ⟨rfl,below_dn B2.out _⟩
    by_cases h1:op = []∧args.length=0
    ·obtain ⟨h1,h2⟩:=h1
     subst h1
     rw [h2] at c3
     go_quiet (fail)
     go_wp2_with fail
     go_meet
     exact ⟨by rw [h2];rfl,below_dn B2.out _⟩
    have H0:Hid ((op == [] && args.length == 0)=false):=Lib.hid (by
     cases ho:(op == [])
     ·rfl
     ·simp only [Bool.true_and,beq_eq_false_iff_ne]
      intro h2
      exact h1 ⟨by simpa using ho,h2⟩)
    have g1:(op == [])=false ∨ ((op == [])=true∧((args.length:Int) == 0)=false):=by
     cases ho:(op == [])
     ·exact .inl rfl
     ·refine .inr ⟨rfl,?_⟩
      rw [beq_eq_false_iff_ne]
      intro h2
      exact h1 ⟨by simpa using ho,by omega⟩
    clear h1
    have k2:=cell_regrown c2
    have k3:=cell_regrown c3
    have cN:∀ d' os,Calls Tryz.prog 88 #[.string ⟨op.toArray⟩] (Go.Sort.grow (redrawn wc d') os) fun e w''=>e=.returned (.bool nb)∧∃ p:Regrown,w''=Go.Sort.grow (redrawn wc p.d) p.os:=fun d' os=>Calls.regrown_of ((HN.out _).mono fun _ _ h=>⟨h.1,h.2 ▸ Below.refl _ _⟩)
    have cU:∀ d' os,Calls Tryz.prog 89 #[.string ⟨op.toArray⟩] (Go.Sort.grow (redrawn wc d') os) fun e w''=>e=.returned (.string ⟨uop.toArray⟩)∧∃ p:Regrown,w''=Go.Sort.grow (redrawn wc p.d) p.os:=fun d' os=>Calls.regrown_of (HU.out _)
    have CN:=Lib.hid cN
    have CU:=Lib.hid cU
    clear cN cU HP HD HFA HS HR HN HU c0 c1 c2 c3 hm
    rcases g1 with g1 | ⟨g1,g2⟩
    all_goals (
     cases nb
     all_goals (
      refine wp_region_quiet_below (by kernel_rfl) (by kernel_rfl) ?_
      repeat (quiet_step (first | (go_at_call 88;exact CN.out _ _) | (go_at_call 89;exact CU.out _ _)))
      refine wpQuiet_nil ?_
      intro _ hw'
      obtain ⟨⟨dq,osq⟩,hw''⟩:=hw'
      subst hw''
      go_wp2_with fail
      go_meet
      exact ⟨by rw [H0.out,← HUB.out];simp,B2.out.trans ((below_regrown wc dq osq).mono (by omega))⟩))
   case rest=>
    obtain ⟨rfl,hb⟩:=hcut
    have B3:=Lib.hid hb
    obtain ⟨c0,c1,c2,c3⟩:=box4 hb
    clear hb B2 HP HN HU HUB HD
    generalize hp2:(p1 && ((op == [] && args.length == 0) || (nb && ub)))=p2 at *
    clear hp2
    go_upto_region 6 with (fail)
    go_cut [6] (fun v wx=>v=.bool (p2 && ((!sb || !(lab == [])) && (colon == (!(lab == []) && !sb)) && decide (args.length ≤ 32)))∧Below (w.heap.size + 1) (w.alloc (.cells #[.string ⟨lab.toArray⟩,.bool colon,.string ⟨op.toArray⟩,.slice A args.length c] 31)) wx)
    case first=>
     have hl:lab = [] ∨ ((lab == [])=false∧lab.isEmpty=false∧lab ≠ []):=by
      cases lab with
      | nil=>exact .inl rfl
      | cons x r=>exact .inr ⟨rfl,rfl,by simp⟩
     have h32:decide ((args.length:Int) ≤ 32)=decide (args.length ≤ 32):=decide_eq_decide.2 (by omega)
     cases p2
     ·go_wp2_with fail
      go_meet
      exact ⟨rfl,B3.out⟩
     ·rcases hl with rfl | ⟨n1,n1',hne⟩
      ·cases sb <;> cases colon
       all_goals (
        go_wp2_with fail
        go_meet
        exact ⟨by first | rfl | simp,B3.out⟩)
      ·have HNE:=Lib.hid hne
       clear hne
       cases sb <;> cases colon
       all_goals (
        go_wp2_with fail
        go_meet
        exact ⟨by first | rfl | simp [HNE.out],B3.out⟩)
    case rest=>
     obtain ⟨rfl,hb⟩:=hcut
     have B4:=Lib.hid hb
     obtain ⟨c0,c1,c2,c3⟩:=box4 hb
     clear hb B3
     generalize hp3:((!sb || !(lab == [])) && (colon == (!(lab == []) && !sb)) && decide (args.length ≤ 32))=p3 at *
     clear hp3
     generalize hr0:(p2 && p3)=r at *
     clear hr0
     have HF:Hid (r=false → res=2):=Lib.hid (fun h=>by rw [HR.out,h];simp)
     have HY:Hid (∀ k (hk:k < args.length),rightA d op args[k]=false → res=2):=Lib.hid (fun k hk h=>by
      rw [HR.out,if_neg (by simp),if_neg]
      rw [Bool.and_eq_true,List.all_eq_true]
      intro h2
      have:=h2.2 _ (List.getElem_mem hk)
      rw [h] at this
      cases this)
     have HZ:Hid (r=true → (∀ k (hk:k < args.length),rightA d op args[k]=true) → res=0):=Lib.hid (fun h h2=>by
      rw [HR.out,if_neg (by simp),if_pos]
      rw [Bool.and_eq_true,List.all_eq_true]
      refine ⟨h,fun x hx=>?_⟩
      obtain ⟨j,hj,rfl⟩:=List.getElem_of_mem hx
      exact h2 j hj)
     clear HR
     have HZS:=Lib.hid (show w.heap.size < (w.alloc (.cells #[.string ⟨lab.toArray⟩,.bool colon,.string ⟨op.toArray⟩,.slice A args.length c] 31)).heap.size by simp)
     go_wp2_with fail
     go_loopw [6,7] (fun v i wr=>∃ (k:Nat) (b:Bool),k ≤ args.length∧i=.int .i64 k∧v=.bool b∧(b=false → res=2)∧(b=true → r=true∧∀ j (hj:j < args.length),j < k → rightA d op args[j]=true)∧Below (w.heap.size + 1) (w.alloc (.cells #[.string ⟨lab.toArray⟩,.bool colon,.string ⟨op.toArray⟩,.slice A args.length c] 31)) wr) (fun _ i _=>args.length - (intOf i).toNat)
     case atStart=>exact ⟨0,r,Nat.zero_le _,rfl,rfl,HF.out,fun h=>⟨h,fun j _ h=>absurd h (by omega)⟩,B4.out⟩
     case round=>
      obtain ⟨k,b,hk,rfl,rfl,hbf,hbt,hb⟩:=hrel
      have HB:=Lib.hid hb
      have HBF:=Lib.hid hbf
      have HBT:=Lib.hid hbt
      have hz1:w.heap.size + 1 ≤ wr.heap.size:=by have:=hb.size;simpa using this
      have hbw:Below w.heap.size w wr:=((Below.refl _ _).alloc (Nat.le_refl _) _).trans (hb.mono (by omega))
      obtain ⟨b0,b1,b2,b3⟩:=box4 hb
      have HBW:=Lib.hid hbw
      clear hb hbf hbt c0 c1 c2 c3
      cases b
      ·have hres:=HBF.out rfl
       subst hres
       by_cases hlt:k < args.length
       ·have e1:(k:Int) < (args.length:Int):=by omega
        clear hbw
        go_wp2_with fail
        go_ret
        exact ⟨rfl,HBW.out⟩
       ·have e1:decide ((k:Int) < (args.length:Int))=false:=by simp;omega
        clear hbw
        go_wp2_with fail
        go_ret
        exact ⟨rfl,HBW.out⟩
      ·by_cases hlt:k < args.length
       ·obtain ⟨g,o,v1,hA,hgl,d0,d1,d2,d3,d4,d5,d6,d7,hs1⟩:=(HS.out.at hbw hbw.size).get k hlt
        subst hA
        obtain ⟨sA,sc,rfl,_,_⟩:=hs1.form
        have HC:=Lib.hid (rarg12_any d op args[k] _ wr.drew (HFA.out _ (List.getElem_mem hlt)) (hs1.keep (w':=wr.drew) (fun p _=>rfl) (fun _ h=>h)))
        have HYk:=Lib.hid (HY.out k hlt)
        have HSk:Hid (rightA d op args[k]=true → ∀ j (hj:j < args.length),j < k + 1 → rightA d op args[j]=true):=Lib.hid (fun hp j hj h=>by
         by_cases hjk:j=k
         ·subst hjk;exact hp
         ·exact (HBT.out rfl).2 j hj (by omega))
        have HR1:=Lib.hid (HBT.out rfl).1
        have hlt2:=Lib.hid (show k + 1 ≤ args.length from hlt)
        have e1:(k:Int) < (args.length:Int):=by omega
        generalize args[k]=x at *
        generalize rightA d op x=rx at *
        unfold arV at HC
        clear hs1 hbw HBT HBF
        go_wp2_with fail
        go_still_tail 8,(by kernel_rfl)
        change wpList _ _ _ _ _ wr.drew
        go_wp2_with fail
        refine HC.out.mono ?_
        rintro e0 w5 ⟨rfl,hb5⟩
        go_wp2_with fail
        go_roundw
        case rel=>exact ⟨k + 1,rx,hlt2.out,by go_num,rfl,HYk.out,fun h=>⟨HR1.out,HSk.out h⟩,HB.out.drew.trans (hb5.mono hz1)⟩
        case measure=>simp [intOf];omega
       ·have hres:=HZ.out (HBT.out rfl).1 (fun j hj=>(HBT.out rfl).2 j hj (by omega))
        subst hres
        have e1:decide ((k:Int) < (args.length:Int))=false:=by simp;omega
        clear hbw
        go_wp2_with fail
        go_ret
        exact ⟨rfl,HBW.out⟩
end Go.Proofs.YtagplldaooipmaaGreatDoor
