/- Several texts in one: LnT, Rh3, DisasmTexts. -/
import Derived.Test.YtagplldaooipmaaGreatDoorKm
import Derived.ProofKit
import Derived.Lib.LaidTab
import Derived.Shelf.Vars
import Derived.MakeChecks
import Derived.Stop.LaidErr
import Derived.Test.YtagplldaooipmaaGreatDoorWh
import Derived.Test.YtagplldaooipmaaGreatDoorWe
import Derived.Test.YtagplldaooipmaaGreatDoorVp
import Derived.Test.YtagplldaooipmaaGreatDoorCards
import Derived.Test.YtagplldaooipmaaGreatDoorTie
import Derived.Test.YtagplldaooipmaaGreatDoorOpn
import Derived.OpenShut
import Derived.ShutString
import Derived.ChangeOld
import Derived.Below
import Derived.Deep.DeepHandedRow
import Derived.Deep.DeepLaidRun
import Derived.Deep.DeepWitnessRowRef
namespace Go.Proofs.YtagplldaooipmaaGreatDoor
open Go.RowKit
theorem gw12 {W:World} (h0:laidMet Tryz.prog Rows.disasmTextsRow.laid W) (hsh:W.ShapedOpen Tryz.prog):GWL W:=by
 have e2:(Rows.laid_strings_asciiSpace:DataW Unit)=Lib.tabData .u8 Lib.asciiSpaceTab:=by kernel_rfl
 have h2:=h0.tail.tail
 rw [e2] at h2
 exact ⟨Lib.tabIs_of_head (g:=0) (t:=172) (e:=5) (n:=256) (by kernel_rfl) (by kernel_rfl) (by kernel_rfl) (by kernel_rfl) (by kernel_rfl) (by kernel_rfl) h2,
  cell_of_shapedOpen_int (t:=3) (zero:=#[.int .i64 0]) hsh (of_decide_eq_true (by kernel_rfl)) (by kernel_rfl) rfl (by kernel_rfl) (by kernel_rfl) Tryz.underlying3⟩
def layIn12 (cs:List Value):Obj → Obj
 | .cells _ t frozen=>.cells cs.toArray t frozen
 | o=>o
/-- The settled world, the tables holding what their texts lay. -/
noncomputable def laidWorld12 (os:Os):World:=
 let N:=(World.settled Tryz.prog os).heap.size
 let w0:=World.holding Tryz.prog os ⟨#[.cells ([9,13,1,32,133,101,160,5760,5600,8192,8202,1,8232,8233,1,8239,8287,48,12288,12288,1].map fun (n:Nat)=>Value.int .u16 (n:Int)).toArray 197,.cells #[.slice (some ⟨N,0,none⟩) 7 7,.slice none 0 0,.int .i64 2] 195],#[],[]⟩
 { w0 with heap:=(((w0.heap.modify 3 (layIn12 (Go.Pinned.utf8FirstZ.map fun (n:Nat)=>Value.int .u8 (n:Int)))).modify 4 (layIn12 ([128,191,160,191,128,159,144,191,128,143,0,0,0,0,0,0,0,0,0,0,0,0,0,0,0,0,0,0,0,0,0,0].map fun (n:Nat)=>Value.int .u8 (n:Int)))).modify 0 (layIn12 ([0,0,0,0,0,0,0,0,0,1,1,1,1,1,0,0,0,0,0,0,0,0,0,0,0,0,0,0,0,0,0,0,1,0,0,0,0,0,0,0,0,0,0,0,0,0,0,0,0,0,0,0,0,0,0,0,0,0,0,0,0,0,0,0,0,0,0,0,0,0,0,0,0,0,0,0,0,0,0,0,0,0,0,0,0,0,0,0,0,0,0,0,0,0,0,0,0,0,0,0,0,0,0,0,0,0,0,0,0,0,0,0,0,0,0,0,0,0,0,0,0,0,0,0,0,0,0,0,0,0,0,0,0,0,0,0,0,0,0,0,0,0,0,0,0,0,0,0,0,0,0,0,0,0,0,0,0,0,0,0,0,0,0,0,0,0,0,0,0,0,0,0,0,0,0,0,0,0,0,0,0,0,0,0,0,0,0,0,0,0,0,0,0,0,0,0,0,0,0,0,0,0,0,0,0,0,0,0,0,0,0,0,0,0,0,0,0,0,0,0,0,0,0,0,0,0,0,0,0,0,0,0,0,0,0,0,0,0,0,0,0,0,0,0,0,0,0,0,0,0,0,0,0,0,0,0].map fun (n:Nat)=>Value.int .u8 (n:Int)))).modify 2 (layIn12 [.pointer (some ⟨N + 1,0,none⟩)]) }
theorem plainH {W:World} {l:List (String × DataW Unit)} (hl:(l.all fun x=>x.2.handleName?.isNone)=true) (h:laidMetH Tryz.prog l W):laidMet Tryz.prog l W:=by
 rwa [Go.MakeChecks.laidMetH_plain _ _ _ hl] at h
end Go.Proofs.YtagplldaooipmaaGreatDoor
/- The reference's layer 17: Text; DisasmTexts' walk. -/
namespace Go.Proofs.YtagplldaooipmaaGreatDoor
open Go.RowKit
theorem flat_operand (s:List UInt8) (n:Nat):flatA (operandD s n):=by
 unfold operandD
 split
 ·exact ⟨rfl,rfl⟩
 ·split <;> exact ⟨rfl,rfl⟩
theorem flat_arg86 (c n:Nat):∀ a ∈ arg86D c n,flatA a:=by
 intro a ha
 unfold arg86D at ha
 split at ha
 ·simp at ha
 ·split at ha
  ·obtain rfl:=List.mem_singleton.1 ha;exact ⟨rfl,rfl⟩
  ·split at ha
   ·obtain rfl:=List.mem_singleton.1 ha;exact ⟨rfl,rfl⟩
   ·obtain rfl:=List.mem_singleton.1 ha;exact flat_operand _ _
theorem flat_first (d:Int) (pl:Nat) (b:List UInt8):∀ a ∈ (firstD first86D d pl b).1.args,flatA a:=by
 intro a ha
 unfold firstD at ha
 split at ha
 ·unfold first86D at ha
  split at ha
  ·obtain rfl:=List.mem_singleton.1 ha;exact ⟨rfl,rfl⟩
  ·rcases List.mem_append.1 ha with ha | ha
   ·exact flat_arg86 _ _ a ha
   ·exact flat_arg86 _ _ a ha
 ·unfold first80D at ha
  split at ha
  ·obtain rfl:=List.mem_singleton.1 ha;exact ⟨rfl,rfl⟩
  ·unfold st80 at ha
   simp only at ha
   split at ha
   ·obtain rfl:=List.mem_singleton.1 ha;exact ⟨rfl,rfl⟩
   ·obtain ⟨x,_,rfl⟩:=List.mem_map.1 ha;exact flat_operand _ _
theorem stmts_flat (d n:Int) (b:List UInt8):∀ s ∈ (stmtsD first86D d n b).1,∀ a ∈ s.args,flatA a:=by
 intro s hs a ha
 rcases stmts_pieces d n b with h | ⟨_,h⟩
 ·rw [h] at hs;simp at hs
 ·rw [h] at hs
  rcases List.mem_cons.1 hs with rfl | hs
  ·obtain rfl:=List.mem_singleton.1 ha;exact ⟨rfl,rfl⟩
  ·obtain ⟨p,hp,rfl⟩:=List.mem_map.1 hs
   have hq:=sweep_all (firstD first86D d) (fun p=>∀ a ∈ p.s.args,flatA a) (fun pl b _=>flat_first d pl b) _ _ _ p hp
   unfold finD at ha
   simp only at ha
   split at ha
   ·rcases List.mem_append.1 ha with ha | ha
    ·exact hq a (List.dropLast_subset _ ha)
    ·obtain rfl:=List.mem_singleton.1 ha;exact ⟨rfl,rfl⟩
   ·exact hq a ha
theorem showS_kind (d:Int) (s:St) (h:rightS d s=0):(showS d s).2=0 ∨ (showS d s).2=11:=by
 unfold showS
 rw [if_neg (by simp [h])]
 split
 ·exact .inr rfl
 ·exact .inl rfl
set_option maxHeartbeats 4000000 in
set_option maxRecDepth 100000 in
theorem refText_any (d n:Int) (b:List UInt8) (v:Value) (w:World) (hr:RdB w w.heap.size v b) (hl:b.length ≤ 1000000) :
  Calls Tryz.prog 11 #[.int .i64 d,.int .i64 n,v] w fun e w'=>e=.returned (.tuple #[.string ⟨(textD first86D d n b).1.toArray⟩,.int .i64 (textD first86D d n b).2])∧Below w.heap.size w w':=by
 have HS:=Lib.hid (refStmts_any d n b v w hr hl)
 have HFIT:=Lib.hid (stmts_fit d n b).1
 have HRI:=Lib.hid (stmts_right d n b)
 have HFL:=Lib.hid (stmts_flat d n b)
 have hlen:=(stmts_fit d n b).2
 unfold textD
 obtain ⟨A,c,rfl,hc⟩:=hr.form
 clear hr
 generalize stmtsD first86D d n b=res at *
 obtain ⟨l,k⟩:=res
 simp only at *
 by_cases hk:k=0
 ·subst hk
  rw [if_neg (by simp)]
  go_enter Tryz.func11, Tryz.ntmps11
  go_wp2_with fail
  refine HS.out.mono ?_
  rintro e w1 ⟨lv,rfl,hst,hb1⟩
  obtain ⟨lA,lc,rfl,hlc,hlm⟩:=hst.form
  have ST:=Lib.hid hst
  have HB1:=Lib.hid hb1
  clear hst hb1 HS
  go_wp2_with fail
  go_loopw [10,11] (fun t i wr=>∃ k:Nat,k ≤ l.length∧i=.int .i64 k∧t=.string ⟨(textsD d (l.take k)).toArray⟩∧Below w1.heap.size w1 wr) (fun _ i _=>l.length - (intOf i).toNat)
  case atStart=>exact ⟨0,Nat.zero_le _,rfl,rfl,Below.refl _ _⟩
  case round=>
   obtain ⟨k,hk,rfl,rfl,hb⟩:=hrel
   have HB:=Lib.hid hb
   clear hb
   have htl:=textsD_len d (l.take k)
   by_cases hlt:k < l.length
   ·obtain ⟨G,o,vk,hA,hgl,c0,c1,c2,c3,hsub⟩:=(ST.out.keep (w':=wr) (S':=fun g=>g < wr.heap.size) (fun p hp=>HB.out.cell hp.2) (fun g hg=>Nat.lt_of_lt_of_le hg.2 HB.out.size)).get k hlt
    subst hA
    obtain ⟨sA,sc,rfl,hsc,hsm⟩:=hsub.form
    have HSH:=Lib.hid (rshow12_flat d l[k] (.slice sA l[k].args.length sc) wr (HRI.out _ (List.getElem_mem hlt)) (HFL.out _ (List.getElem_mem hlt)) (HFIT.out _ (List.getElem_mem hlt)) hsub)
    have hsl:=showS_len d l[k]
    have HTK:=Lib.hid (show textsD d (l.take (k + 1))=textsD d (l.take k) ++ (showS d l[k]).1 ++ [10] by rw [List.take_succ_eq_append_getElem hlt,textsD_snoc])
    have hkl:(l.take k).length=k:=by simp;omega
    have hlt2:=Lib.hid (show k + 1 ≤ l.length from hlt)
    have e1:(k:Int) < (l.length:Int):=by omega
    rw [hkl] at htl
    generalize textsD d (l.take k)=tx at *
    generalize showS d l[k]=sh at *
    generalize l[k]=s at *
    obtain ⟨lab,colon,op,args⟩:=s
    obtain ⟨st,ks⟩:=sh
    unfold stV at HSH
    simp only at *
    clear hsub hsc hsm hgl
    go_wp2_with fail
    refine HSH.out.mono ?_
    rintro e w5 ⟨rfl,hb5⟩
    go_wp2_with fail
    go_roundw
    case rel=>exact ⟨k + 1,hlt2.out,by go_num,by rw [HTK.out,List.append_assoc],bthen HB.out hb5⟩
    case measure=>simp [intOf];omega
   ·obtain rfl:k=l.length:=by omega
    rw [List.take_length]
    go_wp2_with fail
    go_ret2
    exact ⟨rfl,bthen HB1.out HB.out⟩
 ·rw [if_pos hk]
  have e1:((k:Int) != 0)=true:=by rw [bne_iff_ne];omega
  go_enter Tryz.func11, Tryz.ntmps11
  go_wp2_with fail
  refine HS.out.mono ?_
  rintro e w1 ⟨lv,rfl,hst,hb1⟩
  obtain ⟨lA,lc,rfl,hlc,hlm⟩:=hst.form
  clear hst
  go_wp2_with fail
  go_ret2
  exact ⟨rfl,hb1⟩
set_option maxHeartbeats 4000000 in
set_option maxRecDepth 100000 in
theorem disasmTexts_walk (d n:Int) (b:List UInt8) (v:Value) (w:World) (hg:GWL w) (hr:RdB w w.heap.size v b) :
  Calls Tryz.prog 4 #[.int .i64 d,.int .i64 n,v] w fun e w'=>e=.returned (.bool true)∧Below w.heap.size w w':=by
 have HAl:=Lib.hid (fun W (hW:GWL W)=>alive17_any W hW)
 by_cases h1:300 < b.length
 ·have e1:(300:Int) < (b.length:Int):=by omega
  obtain ⟨A,c,rfl,hc⟩:=hr.form
  clear h1 hr
  go_enter Tryz.func4, Tryz.ntmps4
  go_wp2_with fail
  refine (HAl.out _ hg).mono ?_
  rintro e w1 ⟨rfl,hb1⟩
  go_wp2_with fail
  go_ret
  exact ⟨rfl,hb1⟩
 have e1:decide ((300:Int) < (b.length:Int))=false:=by simp;omega
 have HS:=Lib.hid (Text_any d n b v w hg hr (by omega))
 have HR:=Lib.hid (fun W (hW:Below w.heap.size w W)=>refText_any d n b v W ((hr.below hW).more hW.size) (by omega))
 obtain ⟨A,c,rfl,hc⟩:=hr.form
 clear h1 hr
 generalize textD first86D d n b=r at *
 obtain ⟨t,k⟩:=r
 simp only at *
 have k1:((k:Int) == (k:Int))=true:=by simp
 have k2:(t == t)=true:=by simp
 go_enter Tryz.func4, Tryz.ntmps4
 go_wp2_with fail
 refine HS.out.mono ?_
 rintro e w1 ⟨rfl,hb1⟩
 have B1:=Lib.hid hb1
 clear hb1 HS
 go_wp2_with fail
 refine (HR.out _ B1.out).mono ?_
 rintro e w2 ⟨rfl,hb2⟩
 have B2:=Lib.hid (bthen B1.out hb2)
 clear hb2 HR B1
 go_wp2_with fail
 refine (HAl.out _ (hg.below B2.out)).mono ?_
 rintro e w3 ⟨rfl,hb3⟩
 go_wp2_with fail
 go_ret
 exact ⟨rfl,bthen B2.out hb3⟩
end Go.Proofs.YtagplldaooipmaaGreatDoor
/- DisasmTexts: for every input the law returns true, and its arguments read as before; the card ties the tables of the library that its row lists. No further condition. -/
namespace Go.Proofs.YtagplldaooipmaaGreatDoor.disasmTexts
open Go.ChangeShapes Go.WideShapes Go.ChangeAt Go.RowKit
open Go.ChangeMaps (open_string shut_string)
theorem own:ownKnob Tryz.prog.godebug=none:=by kernel_rfl
set_option maxRecDepth 100000 in
theorem contract (H:Type) (enc:TypeId × Value → H) (W:World) (base:Nat) (args:Array Value) (ds gs:List (DataW H)) (before:List MemPlace)
  (hval:∀ (j:Nat) t v,Tryz.f4.params[j]? = some t → args[j]? = some v → Value.okWide Tryz.prog W .any base t v)
  (hW:DataW.Whole enc Tryz.prog Tryz.f4.params.toList Rows.disasmTextsSpec.vars false W args.toList ds gs before) (hgw:GWL W) :
  Calls Tryz.prog 4 args W fun e W'=>∃ v,e=.returned v∧Rows.disasmTextsSpec.post enc Tryz.prog Tryz.f4 false true false false W args v W':=by
 have hW':=hW
 obtain ⟨p,q,hA0,hV,rfl,hfz,hnd⟩:=hW
 have hA:DataW.TrodAll enc Tryz.prog W 0 (fun _=>true) true Tryz.f4.params.toList args.toList ds p:=hA0
 rw [Tryz.params4] at hA hval
 obtain ⟨v0,vs0,d0,ds0,p0,q0,hargs,rfl,rfl,h0,r0⟩:=trodAll_cons hA
 obtain ⟨v1,vs1,d1,ds1,p1,q1,rfl,rfl,rfl,h1,r1⟩:=trodAll_cons r0
 obtain ⟨v2,vs2,d2,ds2,p2,q2,rfl,rfl,rfl,h2,r2⟩:=trodAll_cons r1
 obtain ⟨rfl,rfl,rfl⟩:=trodAll_nil r2
 obtain rfl:args=#[v0,v1,v2]:=by cases args;simp_all
 obtain ⟨rfl,rfl⟩:=trodVars_none hV
 have s0:∀ W',Below W.heap.size W W' → DataW.Trod enc Tryz.prog W' 0 (fun b=>decide (b < W.heap.size)) true 3 v0 d0 p0:=fun W' bel=>stays (by kernel_rfl) (of_decide_eq_true (by kernel_rfl)) h0 (fun p hp=>hW'.lt p (by simp [hp])) bel
 have s1:∀ W',Below W.heap.size W W' → DataW.Trod enc Tryz.prog W' 0 (fun b=>decide (b < W.heap.size)) true 3 v1 d1 p1:=fun W' bel=>stays (by kernel_rfl) (of_decide_eq_true (by kernel_rfl)) h1 (fun p hp=>hW'.lt p (by simp [hp])) bel
 have s2:∀ W',Below W.heap.size W W' → DataW.Trod enc Tryz.prog W' 0 (fun b=>decide (b < W.heap.size)) true 22 v2 d2 p2:=fun W' bel=>stays (by kernel_rfl) (of_decide_eq_true (by kernel_rfl)) h2 (fun p hp=>hW'.lt p (by simp [hp])) bel
 obtain ⟨a0,rfl,rfl,rfl,w0⟩:=open_int Tryz.underlying3 (hval 0 3 v0 rfl rfl) h0
 obtain ⟨a1,rfl,rfl,rfl,w1⟩:=open_int Tryz.underlying3 (hval 1 3 v1 rfl rfl) h1
 obtain ⟨l2,hr2⟩:=open_by (hval 2 22 v2 rfl rfl) h2
 clear hA0
 refine (disasmTexts_walk a0 a1 l2 v2 W hgw hr2 ).mono fun e W' ⟨he,bel⟩=>?_
 subst he
 exact ⟨_,rfl,_,_,_,[],_,[],hW',trodAll_mk1 (shut_bool Tryz.underlying4 _),(trodAll_cons_mk (s0 W' bel) (trodAll_cons_mk (s1 W' bel) (trodAll_cons_mk (s2 W' bel) trodAll_mk0))),rfl,bel.frame _,fun h=>by cases h⟩
theorem laid_met (os:Os):laidMet Tryz.prog Rows.disasmTextsRow.laid ((laidWorld12 os).forCall (fun _ _=>0) ⟨#[],#[.int .i64 0,.int .i64 0,.slice none 0 0],[]⟩).memory:=
 laidMet_of_run3 10 (by kernel_rfl) (by kernel_rfl) (by kernel_rfl)
theorem reads (os:Os) {H:Type} (enc:TypeId × Value → H):∃ places,DataW.whole enc Tryz.prog ((laidWorld12 os).forCall (fun _ _=>0) ⟨#[],#[.int .i64 0,.int .i64 0,.slice none 0 0],[]⟩).memory Tryz.f4.params.toList Rows.disasmTextsSpec.vars false (#[.int .i64 0,.int .i64 0,.slice none 0 0]:Array Value).toList 8=some ([.lit (.int .i64 0),.lit (.int .i64 0),.nil],[],places):=
 ⟨[],by kernel_rfl⟩
set_option maxRecDepth 100000 in
theorem lifted (os:Os) (started:os.Started) (H:Type) (enc:TypeId × Value → H) (F:Stop.Interp) :
  ReturnsInHanded {} Tryz.checked os 4 .any ((OpenSpec.ofChange Rows.disasmTextsSpec).preRow enc Tryz.prog Tryz.f4 Rows.disasmTextsRow.domain false Rows.disasmTextsRow.laid) (((OpenSpec.ofChange Rows.disasmTextsSpec).at F).post enc Tryz.prog Tryz.f4 false true false false):=by
 obtain ⟨places,hx⟩:=reads os enc
 refine returnsInHanded_of_row (C:=Tryz.checked) (s:=OpenSpec.ofChange Rows.disasmTextsSpec) own started (by kernel_rfl) Tryz.func4
  (witness_row_atRef (enc:=enc) (C:=Tryz.checked) false (laidWorld12 os) #[.int .i64 0,.int .i64 0,.slice none 0 0] rfl (by kernel_rfl) (by kernel_rfl) (by kernel_rfl)
   (OpenSpec.preRow_of_cond 8 hx (by kernel_rfl) (fun k hk=>by cases hk) (by kernel_rfl) (laid_met os))) ?_
 intro W base args ds gs before hval hW _ _ _ hlm hsh _
 exact contract H enc W base args ds gs before hval hW (gw12 (plainH (by kernel_rfl) hlm) hsh)
theorem said:Rows.DisasmTextsSaid:=
 OpenClaim.holds_of_cond 4 Tryz.f4 rfl rfl rfl rfl rfl rfl rfl ⟨rfl,rfl,rfl,rfl,rfl⟩ rfl rfl rfl rfl rfl (by kernel_rfl) Tryz.func4 (by kernel_rfl)
  (of_decide_eq_true (by kernel_rfl)) (by unfold Func.isWrapper;first | (rw [if_pos (by decide +kernel)];kernel_rfl) | (rw [if_neg (by decide +kernel)];exact ⟨rfl,rfl⟩))
  (fun os started H enc _ F=>by rw [OpenClaim.pre_eq_preRow];exact lifted os started H enc F)
theorem plain (f:FuncId) (fn:Func) (hf:Tryz.pinned.checked.prog.funcNamed Tryz.f4.name=some f) (hfn:Tryz.pinned.checked.prog.funcs[f]? = some fn) :
  false=Tryz.pinned.checked.prog.looks []∧∀ (j:Nat) t,fn.params[j]? = some t → Tryz.pinned.checked.prog.wantsStandIn t=false:=by
 obtain rfl:f=4:=Option.some.inj ((show Tryz.prog.funcNamed Tryz.f4.name=some 4 by kernel_rfl).symm.trans hf) |>.symm
 obtain rfl:fn=Tryz.f4:=(Option.some.inj (Tryz.func4.symm.trans hfn)).symm
 refine ⟨by kernel_rfl,fun j t ht=>?_⟩
 rw [Tryz.params4] at ht
 have ht':=Array.mem_of_getElem? ht
 simp only [List.mem_toArray,List.mem_cons,List.not_mem_nil,or_false] at ht'
 rcases ht' with rfl | rfl | rfl
 ·exact (show Tryz.prog.wantsStandIn 3=false by kernel_rfl)
 ·exact (show Tryz.prog.wantsStandIn 3=false by kernel_rfl)
 ·exact (show Tryz.prog.wantsStandIn 22=false by kernel_rfl)
theorem card:Rows.DisasmTextsCardSaid:=
 Claim7.holds_tied_plain_at .later [] _ _ _ _ said (fun _ h=>by cases h) (by kernel_rfl) (fun _ h=>by cases h) disasmTexts_row_tie rfl ⟨rfl,rfl⟩ (by kernel_rfl) rfl plain (by kernel_rfl)
#print axioms card
end Go.Proofs.YtagplldaooipmaaGreatDoor.disasmTexts
