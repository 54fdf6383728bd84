/- Lr. -/
import Derived.Test.YtbdnbfacalfciaaGreatDoorKo
import Derived.BigQuiet
import Derived.Deep.QuietTactic
namespace Go.Proofs.YtbdnbfacalfciaaGreatDoor
open Go.RowKit
theorem rightS_steps (d:Int) (lab:List UInt8) (colon:Bool) (op:List UInt8) (args:List Ar):rightS d ⟨lab,colon,op,args⟩=if knownB d=false then 1 else if (!lab.isEmpty && !plainB d lab)=true then 2
  else if (op.isEmpty && decide (0<args.length))=true then 2 else if (!op.isEmpty && !greatB op)=true then 2 else if (setsB op && lab.isEmpty)=true then 2 else if (colon != (!lab.isEmpty && !setsB op))=true then 2 else if decide (32<args.length)=true then 2 else if args.all (rightA d op)=false then 2 else 0:=by
 have e1:(lab≠[]/\plainB d lab=false)=((!lab.isEmpty && !plainB d lab)=true):=by
  cases lab <;> cases plainB d _ <;> simp
 have e2:((op = []/\args≠[])∨(op≠[]/\greatB op=false))=((op.isEmpty && decide (0<args.length))=true∨(!op.isEmpty && !greatB op)=true):=by
  cases op <;> cases args <;> cases greatB _ <;> simp
 have e3:((setsB op=true/\lab = [])∨colon≠(!lab.isEmpty && !setsB op)∨32<args.length)=((setsB op && lab.isEmpty)=true∨(colon != (!lab.isEmpty && !setsB op))=true∨decide (32<args.length)=true):=by
  cases lab <;> cases setsB op <;> cases colon <;> simp
 have h2:∀ (p q:Prop) [Decidable p] [Decidable q] (x y:Nat),(if p∨q then x else y)=if p then x else if q then x else y:=by
  intro p q _ _ x y
  by_cases hp:p <;> by_cases hq:q <;> simp [hp,hq]
 unfold rightS
 simp only [e1,e2,e3,h2]
set_option maxHeartbeats 16000000 in
set_option maxRecDepth 100000 in
theorem Right12_any (d:Int) (s:St) (v:Value) (w:World) (hg:GWL w) (hf:fitS s) (hs:ArAt w (· < w.heap.size) v s.args) :
  Calls Tryz.prog 50 #[.int .i64 d,stV s v] w fun e w'=>e=.returned (.int .i64 (rightS d s))/\Below w.heap.size w w':=by
 obtain ⟨lab,colon,op,args⟩:=s
 have HKn:=LH (fun W=>known_any d W)
 have HPl:=LH (fun W (hW:GWL W)=>Plain_any d lab W (by have:=hf.1;simp only at this;omega) hW)
 have HGr:=LH (fun W=>great_any op W (by have:=hf.2.1;simp only at this;omega))
 have HSe:=LH (fun W=>sets_any op W)
 have HCo:=LH (fun bd bs W (hW:Below w.heap.size w W) h1 h2=>acont_any d op args v bd bs W (hg.below hW) hf.2.2 (hs.at hW hW.size) h1 h2)
 have HV:=LH (rightS_steps d lab colon op args)
 obtain ⟨A,c,rfl,hc,hm⟩:=hs.form
 unfold maxLen at hm
 unfold stV
 simp only at *
 generalize rightS d ⟨lab,colon,op,args⟩=res at *
 generalize knownB d=kn at *
 generalize plainB d lab=pl at *
 generalize greatB op=gr at *
 generalize setsB op=se at *
 generalize args.all (rightA d op)=al at *
 obtain ⟨le,hle⟩:∃ b,lab.isEmpty=b:=⟨_,rfl⟩
 obtain ⟨oe,hoe⟩:∃ b,op.isEmpty=b:=⟨_,rfl⟩
 rw [hle,hoe] at HV
 have hle2:(lab == [])=le:=by rw [← hle];cases lab <;> rfl
 have hoe2:(op == [])=oe:=by rw [← hoe];cases op <;> rfl
 clear hs hf
 have hB:=((Below.refl w.heap.size w).alloc (Nat.le_refl _) (.cells #[.int .i64 d] 3)).alloc (by simp) (.cells #[.string ⟨lab.toArray⟩,.bool colon,.string ⟨op.toArray⟩,.slice A args.length c] 63)
 have HB0:=LH hB
 obtain ⟨C0,C1,BB⟩:=boxes (o1:=.cells #[.int .i64 d] 3) (o2:=.cells #[.string ⟨lab.toArray⟩,.bool colon,.string ⟨op.toArray⟩,.slice A args.length c] 63) (w:=w) (Below.refl _ _)
 have HC0:=LH C0
 have HD0:=LH C1
 clear C0 C1 BB hB
 go_enter Tryz.func50, Tryz.ntmps50
 go_wp2_with fail
 refine (HKn.out _).mono ?_
 rintro e w0 ⟨rfl,rfl⟩
 cases kn
 ·have HX:=LH (HV.out.trans (if_pos rfl))
  clear HV HKn HPl HGr HSe HCo
  go_wp2_with fail
  go_ret
  exact ⟨by rw [HX.out];rfl,HB0.out⟩
 have HV1:=LH (HV.out.trans (if_neg (by simp)))
 clear HV HKn
 obtain ⟨w0,hw0⟩:∃ w0,w0=(w.alloc (.cells #[.int .i64 d] 3)).alloc (.cells #[.string ⟨lab.toArray⟩,.bool colon,.string ⟨op.toArray⟩,.slice A args.length c] 63):=⟨_,rfl⟩
 simp only [← hw0] at *
 clear hw0
 have d0:=coh (i:=0) HC0.out
 simp at d0
 obtain ⟨s0,s1,s2,s3⟩:=cells4 HD0.out
 go_upto_region 4 with (fail)
 go_cut [13,14,15,16,17,18,19,20,21] (fun t13 _ _ _ _ _ _ _ _ wx=>t13=.bool (!le && !pl)/\∃ w1,w1=wx/\Below w0.heap.size w0 w1)
 case first=>
  cases le
  ·go_wp2_with fail
   refine (HPl.out _ (hg.below HB0.out)).mono ?_
   rintro e w1 ⟨rfl,hb1⟩
   go_wp2_with fail
   go_meet
   exact ⟨by cases pl <;> rfl,_,rfl,hb1⟩
  ·go_wp2_with fail
   go_meet
   exact ⟨rfl,_,rfl,Below.refl _ _⟩
 case rest=>
 obtain ⟨rfl,w1,rfl,hb1⟩:=hcut
 have HC1:=LH ((hb1.block _ (loh HC0.out)).trans HC0.out)
 have HD1:=LH ((hb1.block _ (loh HD0.out)).trans HD0.out)
 have HB1:=LH (bthen HB0.out hb1)
 clear hb1 HC0 HD0 HB0 HPl d0 s0 s1 s2 s3
 have d0:=coh (i:=0) HC1.out
 simp at d0
 obtain ⟨s0,s1,s2,s3⟩:=cells4 HD1.out
 obtain ⟨q1,hq1⟩:∃ q,(!le && !pl)=q:=⟨_,rfl⟩
 rw [hq1] at HV1 ⊢
 cases q1 with
 | true=>
  have HX:=LH (HV1.out.trans (if_pos rfl))
  clear HV1 HGr HSe HCo
  go_wp2_with fail
  go_ret
  exact ⟨by rw [HX.out];rfl,HB1.out⟩
 | false=>
 have HV2:=LH (HV1.out.trans (if_neg (by simp)))
 clear HV1
 go_upto_region 6 with (fail)
 go_cut [22,23,24,25,26,27,28,29,30,31] (fun t22 _ _ _ _ _ _ _ _ _ wx=>t22=.bool (oe && decide (0<args.length))/\w1=wx)
 case first=>
  cases oe
  all_goals (
   go_wp2_with fail
   go_meet
   exact ⟨by first | rfl | simp,rfl⟩)
 case rest=>
 obtain ⟨rfl,rfl⟩:=hcut
 obtain ⟨q2,hq2⟩:∃ q,(oe && decide (0<args.length))=q:=⟨_,rfl⟩
 rw [hq2] at HV2 ⊢
 cases q2 with
 | true=>
  have HX:=LH (HV2.out.trans (if_pos rfl))
  clear HV2 HSe HCo HGr
  go_wp2_with fail
  go_ret
  exact ⟨by rw [HX.out];rfl,HB1.out⟩
 | false=>
 have HV2b:=LH (HV2.out.trans (if_neg (by simp)))
 clear HV2
 go_upto_region 7 with (fail)
 go_cut [22,32,33,34,35,36,37,38,39,40] (fun t22 _ _ _ _ _ _ _ _ _ wx=>t22=.bool (!oe && !gr)/\∃ w2,w2=wx/\Below w1.heap.size w1 w2)
 case first=>
  cases oe
  ·go_wp2_with fail
   refine (HGr.out _).mono ?_
   rintro e w2 ⟨rfl,hb2⟩
   go_wp2_with fail
   go_meet
   exact ⟨by cases gr <;> rfl,_,rfl,hb2⟩
  ·go_wp2_with fail
   go_meet
   exact ⟨rfl,_,rfl,Below.refl _ _⟩
 case rest=>
 obtain ⟨rfl,w2,rfl,hb2⟩:=hcut
 have HC2:=LH ((hb2.block _ (loh HC1.out)).trans HC1.out)
 have HD2:=LH ((hb2.block _ (loh HD1.out)).trans HD1.out)
 have HB2:=LH (bthen HB1.out hb2)
 clear hb2 HC1 HD1 HB1 HGr d0 s0 s1 s2 s3
 have d0:=coh (i:=0) HC2.out
 simp at d0
 obtain ⟨s0,s1,s2,s3⟩:=cells4 HD2.out
 obtain ⟨q3,hq3⟩:∃ q,(!oe && !gr)=q:=⟨_,rfl⟩
 rw [hq3] at HV2b ⊢
 cases q3 with
 | true=>
  have HX:=LH (HV2b.out.trans (if_pos rfl))
  clear HV2b HSe HCo
  go_wp2_with fail
  go_ret
  exact ⟨by rw [HX.out];rfl,HB2.out⟩
 | false=>
 have HV3:=LH (HV2b.out.trans (if_neg (by simp)))
 clear HV2b
 go_upto_region 9 with (fail)
 go_cut [41,42,43,44,45,46,47,48] (fun t41 _ _ _ _ _ _ _ wx=>t41=.bool (se && le)/\∃ w3,w3=wx/\Below w2.heap.size w2 w3)
 case first=>
  go_wp2_with fail
  refine (HSe.out _).mono ?_
  rintro e w3 ⟨rfl,hb3⟩
  cases se
  all_goals (
   go_wp2_with fail
   go_meet
   exact ⟨by simp,_,rfl,hb3⟩)
 case rest=>
 obtain ⟨rfl,w3,rfl,hb3⟩:=hcut
 have HC3:=LH ((hb3.block _ (loh HC2.out)).trans HC2.out)
 have HD3:=LH ((hb3.block _ (loh HD2.out)).trans HD2.out)
 have HB3:=LH (bthen HB2.out hb3)
 clear hb3 HC2 HD2 HB2 d0 s0 s1 s2 s3
 have d0:=coh (i:=0) HC3.out
 simp at d0
 obtain ⟨s0,s1,s2,s3⟩:=cells4 HD3.out
 obtain ⟨q4,hq4⟩:∃ q,(se && le)=q:=⟨_,rfl⟩
 rw [hq4] at HV3 ⊢
 cases q4 with
 | true=>
  have HX:=LH (HV3.out.trans (if_pos rfl))
  clear HV3 HCo
  go_wp2_with fail
  go_ret
  exact ⟨by rw [HX.out];rfl,HB3.out⟩
 | false=>
 have HV4:=LH (HV3.out.trans (if_neg (by simp)))
 clear HV3
 go_upto_region 10 with (fail)
 go_cut [41,49,50,51,52,53,54,55,56,57,58] (fun t41 _ _ _ _ _ _ _ _ _ _ wx=>t41=.bool (colon != (!le && !se))/\∃ w4,w4=wx/\Below w3.heap.size w3 w4)
 case first=>
  have hz3:w.heap.size+1<w3.heap.size:=loh HD3.out
  cases le
  ·go_region_with (first | (go_at_call 66;(with_reducible refine (HSe.out _).mono ?_);rintro e1 w4 ⟨rfl,hb4⟩;have t1:=(hb4.cell (p:=⟨w.heap.size+1,1,none⟩) hz3).trans s1))
   all_goals (
    go_wp2_with fail
    go_meet
    exact ⟨by cases se <;> cases colon <;> rfl,_,rfl,(Below.refl w3.heap.size w3).drew.trans hb4⟩)
  ·simp only [Bool.not_true]
   go_quiet (fail)
   go_wp2_with fail
   go_meet
   exact ⟨by cases se <;> cases colon <;> rfl,_,rfl,below_dn (Below.refl _ _) _⟩
 case rest=>
 obtain ⟨rfl,w4,rfl,hb4⟩:=hcut
 have HC4:=LH ((hb4.block _ (loh HC3.out)).trans HC3.out)
 have HD4:=LH ((hb4.block _ (loh HD3.out)).trans HD3.out)
 have HB4:=LH (bthen HB3.out hb4)
 clear hb4 HC3 HD3 HB3 HSe d0 s0 s1 s2 s3
 have d0:=coh (i:=0) HC4.out
 simp at d0
 obtain ⟨s0,s1,s2,s3⟩:=cells4 HD4.out
 obtain ⟨q5,hq5⟩:∃ q,(colon != (!le && !se))=q:=⟨_,rfl⟩
 rw [hq5] at HV4 ⊢
 cases q5 with
 | true=>
  have HX:=LH (HV4.out.trans (if_pos rfl))
  clear HV4 HCo
  go_wp2_with fail
  go_ret
  exact ⟨by rw [HX.out];rfl,HB4.out⟩
 | false=>
 have HV5:=LH (HV4.out.trans (if_neg (by simp)))
 clear HV4
 by_cases hn:32<args.length
 ·have i1:(32:Int)<(args.length:Int):=by omega
  have i2:=decide_eq_true i1
  go_wp2_with fail
  go_ret
  exact ⟨by rw [HV5.out];simp [hn],HB4.out⟩
 ·have i1:¬ (32:Int)<(args.length:Int):=by omega
  have i2:=decide_eq_false i1
  go_wp2_with fail
  refine (HCo.out _ _ _ HB4.out d0 s2).mono ?_
  rintro e w9 ⟨rfl,hb9⟩
  cases al
  all_goals (
   go_wp2_with fail
   go_ret
   exact ⟨by rw [HV5.out];simp [hn],bthen HB4.out hb9⟩)
end Go.Proofs.YtbdnbfacalfciaaGreatDoor
