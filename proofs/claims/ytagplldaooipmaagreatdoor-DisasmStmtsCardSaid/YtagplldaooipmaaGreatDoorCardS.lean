/- Several texts in one: LnS, Law17s, DisasmStmts. -/
import Derived.Test.YtagplldaooipmaaGreatDoorKm
import Derived.ProofKit
import Derived.Lib.LaidTab
import Derived.Shelf.Vars
import Derived.MakeChecks
import Derived.Stop.LaidErr
import Derived.Test.YtagplldaooipmaaGreatDoorVp
import Derived.Test.YtagplldaooipmaaGreatDoorWe
import Derived.Test.YtagplldaooipmaaGreatDoorKn
import Derived.StillTactics
import Derived.StillTailTactics
import Derived.Test.YtagplldaooipmaaGreatDoorCards
import Derived.Test.YtagplldaooipmaaGreatDoorTie
import Derived.Test.YtagplldaooipmaaGreatDoorOpn
import Derived.OpenShut
import Derived.ShutString
import Derived.ChangeOld
import Derived.Below
import Derived.Deep.DeepHandedRow
import Derived.Deep.DeepLaidRun
import Derived.Deep.DeepWitnessRowRef
namespace Go.Proofs.YtagplldaooipmaaGreatDoor
open Go.RowKit
theorem gw12 {W:World} (h0:laidMet Tryz.prog Rows.disasmStmtsRow.laid W) (hsh:W.ShapedOpen Tryz.prog):GWL W:=by
 have e2:(Rows.laid_strings_asciiSpace:DataW Unit)=Lib.tabData .u8 Lib.asciiSpaceTab:=by kernel_rfl
 have h2:=h0.tail.tail
 rw [e2] at h2
 exact ⟨Lib.tabIs_of_head (g:=0) (t:=172) (e:=5) (n:=256) (by kernel_rfl) (by kernel_rfl) (by kernel_rfl) (by kernel_rfl) (by kernel_rfl) (by kernel_rfl) h2,
  cell_of_shapedOpen_int (t:=3) (zero:=#[.int .i64 0]) hsh (of_decide_eq_true (by kernel_rfl)) (by kernel_rfl) rfl (by kernel_rfl) (by kernel_rfl) Tryz.underlying3⟩
def layIn12 (cs:List Value):Obj → Obj
 | .cells _ t frozen=>.cells cs.toArray t frozen
 | o=>o
/-- The settled world, the tables holding what their texts lay. -/
noncomputable def laidWorld12 (os:Os):World:=
 let N:=(World.settled Tryz.prog os).heap.size
 let w0:=World.holding Tryz.prog os ⟨#[.cells ([9,13,1,32,133,101,160,5760,5600,8192,8202,1,8232,8233,1,8239,8287,48,12288,12288,1].map fun (n:Nat)=>Value.int .u16 (n:Int)).toArray 197,.cells #[.slice (some ⟨N,0,none⟩) 7 7,.slice none 0 0,.int .i64 2] 195],#[],[]⟩
 { w0 with heap:=(((w0.heap.modify 3 (layIn12 (Go.Pinned.utf8FirstZ.map fun (n:Nat)=>Value.int .u8 (n:Int)))).modify 4 (layIn12 ([128,191,160,191,128,159,144,191,128,143,0,0,0,0,0,0,0,0,0,0,0,0,0,0,0,0,0,0,0,0,0,0].map fun (n:Nat)=>Value.int .u8 (n:Int)))).modify 0 (layIn12 ([0,0,0,0,0,0,0,0,0,1,1,1,1,1,0,0,0,0,0,0,0,0,0,0,0,0,0,0,0,0,0,0,1,0,0,0,0,0,0,0,0,0,0,0,0,0,0,0,0,0,0,0,0,0,0,0,0,0,0,0,0,0,0,0,0,0,0,0,0,0,0,0,0,0,0,0,0,0,0,0,0,0,0,0,0,0,0,0,0,0,0,0,0,0,0,0,0,0,0,0,0,0,0,0,0,0,0,0,0,0,0,0,0,0,0,0,0,0,0,0,0,0,0,0,0,0,0,0,0,0,0,0,0,0,0,0,0,0,0,0,0,0,0,0,0,0,0,0,0,0,0,0,0,0,0,0,0,0,0,0,0,0,0,0,0,0,0,0,0,0,0,0,0,0,0,0,0,0,0,0,0,0,0,0,0,0,0,0,0,0,0,0,0,0,0,0,0,0,0,0,0,0,0,0,0,0,0,0,0,0,0,0,0,0,0,0,0,0,0,0,0,0,0,0,0,0,0,0,0,0,0,0,0,0,0,0,0,0,0,0,0,0,0,0,0,0,0,0,0,0,0,0,0,0,0,0].map fun (n:Nat)=>Value.int .u8 (n:Int)))).modify 2 (layIn12 [.pointer (some ⟨N + 1,0,none⟩)]) }
theorem plainH {W:World} {l:List (String × DataW Unit)} (hl:(l.all fun x=>x.2.handleName?.isNone)=true) (h:laidMetH Tryz.prog l W):laidMet Tryz.prog l W:=by
 rwa [Go.MakeChecks.laidMetH_plain _ _ _ hl] at h
end Go.Proofs.YtagplldaooipmaaGreatDoor
/- DisasmStmts: the walk. -/
namespace Go.Proofs.YtagplldaooipmaaGreatDoor
open Go.RowKit
set_option maxHeartbeats 8000000 in
set_option maxRecDepth 100000 in
theorem disasmStmts_walk (d n:Int) (b:List UInt8) (v:Value) (w:World) (hg:GWL w) (hr:RdB w w.heap.size v b) :
  Calls Tryz.prog 3 #[.int .i64 d,.int .i64 n,v] w fun e w'=>e=.returned (.bool true)∧Below w.heap.size w w':=by
 have HAl:=Lib.hid (fun W (hW:GWL W)=>alive17_any W hW)
 by_cases h1:300 < b.length
 ·have e1:(300:Int) < (b.length:Int):=by omega
  obtain ⟨A,c,rfl,hc⟩:=hr.form
  clear h1 hr
  go_enter Tryz.func3, Tryz.ntmps3
  go_wp2_with fail
  refine (HAl.out _ hg).mono ?_
  rintro e w1 ⟨rfl,hb1⟩
  go_wp2_with fail
  go_ret
  exact ⟨rfl,hb1⟩
 have e1:decide ((300:Int) < (b.length:Int))=false:=by simp;omega
 have HS:=Lib.hid (Stmts_any d n b v w hg hr (by omega))
 have HR:=Lib.hid (fun W (hW:Below w.heap.size w W)=>refStmts_any d n b v W ((hr.below hW).more hW.size) (by omega))
 obtain ⟨A,c,rfl,hc⟩:=hr.form
 clear h1 hr
 generalize stmtsD first86D d n b=r at *
 obtain ⟨l,k⟩:=r
 simp only at *
 go_enter Tryz.func3, Tryz.ntmps3
 go_wp2_with fail
 refine HS.out.mono ?_
 rintro e w1 ⟨lv,rfl,hst,hb1⟩
 obtain ⟨lA,lc,rfl,hlc,hlm⟩:=hst.form
 unfold maxLen at hlm
 have ST:=Lib.hid hst
 have B1:=Lib.hid hb1
 clear hst hb1 HS
 go_wp2_with fail
 refine (HR.out _ B1.out).mono ?_
 rintro e w2 ⟨mv,rfl,hst2,hb2⟩
 obtain ⟨mA,mc,rfl,hmc,hmm⟩:=hst2.form
 have S1:=Lib.hid (ST.out.keep (w':=w2) (S':=fun g=>g < w2.heap.size) (fun p hp=>hb2.cell hp.2) (fun g hg=>Nat.lt_of_lt_of_le hg.2 hb2.size))
 have S2:=Lib.hid (hst2.keep (w':=w2) (S':=fun g=>g < w2.heap.size) (fun _ _=>rfl) (fun g hg=>hg.2))
 have B2:=Lib.hid (bthen B1.out hb2)
 have k1:((k:Int) != (k:Int))=false:=by simp
 have k2:((l.length:Int) != (l.length:Int))=false:=by simp
 clear hst2 hb2 HR ST B1 hmm
 go_wp2_with fail
 go_loopw [11] (fun i wr=>∃ k:Nat,k ≤ l.length∧i=.int .i64 k∧Below w2.heap.size w2 wr) (fun i _=>l.length - (intOf i).toNat)
 case atStart=>exact ⟨0,Nat.zero_le _,rfl,Below.refl _ _⟩
 case round=>
  obtain ⟨m,hm,rfl,hB⟩:=hrel
  have HB:=Lib.hid hB
  have hsz:=hB.size
  clear hB
  by_cases hlt:m < l.length
  ·obtain ⟨g,o,vk,hA,hgl,c0,c1,c2,c3,hsub⟩:=S1.out.get m hlt
   subst hA
   obtain ⟨sA,sc,rfl,hsc,hsm⟩:=hsub.form
   obtain ⟨g',o',vk',hA',hgl',a0,a1,a2,a3,hsub'⟩:=S2.out.get m hlt
   subst hA'
   obtain ⟨sA',sc',rfl,hsc',hsm'⟩:=hsub'.form
   unfold maxLen at hsm hsm'
   have HC:=Lib.hid (refSame12_eq l[m] _ _ wr.drew (hsub.keep (w':=wr.drew) (S':=fun x=>x < wr.drew.heap.size) (fun p hp=>HB.out.cell hp) (fun x hx=>Nat.lt_of_lt_of_le hx hsz)) (hsub'.keep (w':=wr.drew) (S':=fun x=>x < wr.drew.heap.size) (fun p hp=>HB.out.cell hp) (fun x hx=>Nat.lt_of_lt_of_le hx hsz)))
   have d0:=(HB.out.cell (p:=⟨g,o + m * 4,none⟩) hgl).trans c0
   have d1:=(HB.out.cell (p:=⟨g,o + m * 4 + 1,none⟩) hgl).trans c1
   have d2:=(HB.out.cell (p:=⟨g,o + m * 4 + 2,none⟩) hgl).trans c2
   have d3:=(HB.out.cell (p:=⟨g,o + m * 4 + 3,none⟩) hgl).trans c3
   have b0:=(HB.out.cell (p:=⟨g',o' + m * 4,none⟩) hgl').trans a0
   have b1:=(HB.out.cell (p:=⟨g',o' + m * 4 + 1,none⟩) hgl').trans a1
   have b2:=(HB.out.cell (p:=⟨g',o' + m * 4 + 2,none⟩) hgl').trans a2
   have b3:=(HB.out.cell (p:=⟨g',o' + m * 4 + 3,none⟩) hgl').trans a3
   clear c0 c1 c2 c3 a0 a1 a2 a3 hsub hsub'
   have hlt2:=Lib.hid (show m + 1 ≤ l.length from hlt)
   generalize l[m]=s at *
   obtain ⟨lab,col,op,args⟩:=s
   unfold stV at HC
   simp only at *
   have i1:(m:Int) < (l.length:Int):=by omega
   go_wp2_with fail
   go_still_tail 8,(by kernel_rfl)
   change wpList _ _ _ _ _ wr.drew
   go_wp2_with fail
   refine HC.out.mono ?_
   rintro e w5 ⟨rfl,hb5⟩
   go_wp2_with fail
   go_roundw
   case rel=>exact ⟨m + 1,hlt2.out,by go_num,HB.out.drew.trans (hb5.mono hsz)⟩
   case measure=>simp [intOf];omega
  ·obtain rfl:m=l.length:=by omega
   have BW:=Lib.hid (B2.out.trans (HB.out.mono B2.out.size))
   have HA:=Lib.hid (HAl.out wr (hg.below BW.out))
   clear S1 S2
   go_wp2_with fail
   refine HA.out.mono ?_
   rintro e w5 ⟨rfl,hb5⟩
   go_wp2_with fail
   go_ret
   exact ⟨rfl,bthen BW.out hb5⟩
end Go.Proofs.YtagplldaooipmaaGreatDoor
/- DisasmStmts: for every input the law returns true, and its arguments read as before; the card ties the tables of the library that its row lists. No further condition. -/
namespace Go.Proofs.YtagplldaooipmaaGreatDoor.disasmStmts
open Go.ChangeShapes Go.WideShapes Go.ChangeAt Go.RowKit
open Go.ChangeMaps (open_string shut_string)
theorem own:ownKnob Tryz.prog.godebug=none:=by kernel_rfl
set_option maxRecDepth 100000 in
theorem contract (H:Type) (enc:TypeId × Value → H) (W:World) (base:Nat) (args:Array Value) (ds gs:List (DataW H)) (before:List MemPlace)
  (hval:∀ (j:Nat) t v,Tryz.f3.params[j]? = some t → args[j]? = some v → Value.okWide Tryz.prog W .any base t v)
  (hW:DataW.Whole enc Tryz.prog Tryz.f3.params.toList Rows.disasmStmtsSpec.vars false W args.toList ds gs before) (hgw:GWL W) :
  Calls Tryz.prog 3 args W fun e W'=>∃ v,e=.returned v∧Rows.disasmStmtsSpec.post enc Tryz.prog Tryz.f3 false true false false W args v W':=by
 have hW':=hW
 obtain ⟨p,q,hA0,hV,rfl,hfz,hnd⟩:=hW
 have hA:DataW.TrodAll enc Tryz.prog W 0 (fun _=>true) true Tryz.f3.params.toList args.toList ds p:=hA0
 rw [Tryz.params3] at hA hval
 obtain ⟨v0,vs0,d0,ds0,p0,q0,hargs,rfl,rfl,h0,r0⟩:=trodAll_cons hA
 obtain ⟨v1,vs1,d1,ds1,p1,q1,rfl,rfl,rfl,h1,r1⟩:=trodAll_cons r0
 obtain ⟨v2,vs2,d2,ds2,p2,q2,rfl,rfl,rfl,h2,r2⟩:=trodAll_cons r1
 obtain ⟨rfl,rfl,rfl⟩:=trodAll_nil r2
 obtain rfl:args=#[v0,v1,v2]:=by cases args;simp_all
 obtain ⟨rfl,rfl⟩:=trodVars_none hV
 have s0:∀ W',Below W.heap.size W W' → DataW.Trod enc Tryz.prog W' 0 (fun b=>decide (b < W.heap.size)) true 3 v0 d0 p0:=fun W' bel=>stays (by kernel_rfl) (of_decide_eq_true (by kernel_rfl)) h0 (fun p hp=>hW'.lt p (by simp [hp])) bel
 have s1:∀ W',Below W.heap.size W W' → DataW.Trod enc Tryz.prog W' 0 (fun b=>decide (b < W.heap.size)) true 3 v1 d1 p1:=fun W' bel=>stays (by kernel_rfl) (of_decide_eq_true (by kernel_rfl)) h1 (fun p hp=>hW'.lt p (by simp [hp])) bel
 have s2:∀ W',Below W.heap.size W W' → DataW.Trod enc Tryz.prog W' 0 (fun b=>decide (b < W.heap.size)) true 22 v2 d2 p2:=fun W' bel=>stays (by kernel_rfl) (of_decide_eq_true (by kernel_rfl)) h2 (fun p hp=>hW'.lt p (by simp [hp])) bel
 obtain ⟨a0,rfl,rfl,rfl,w0⟩:=open_int Tryz.underlying3 (hval 0 3 v0 rfl rfl) h0
 obtain ⟨a1,rfl,rfl,rfl,w1⟩:=open_int Tryz.underlying3 (hval 1 3 v1 rfl rfl) h1
 obtain ⟨l2,hr2⟩:=open_by (hval 2 22 v2 rfl rfl) h2
 clear hA0
 refine (disasmStmts_walk a0 a1 l2 v2 W hgw hr2 ).mono fun e W' ⟨he,bel⟩=>?_
 subst he
 exact ⟨_,rfl,_,_,_,[],_,[],hW',trodAll_mk1 (shut_bool Tryz.underlying4 _),(trodAll_cons_mk (s0 W' bel) (trodAll_cons_mk (s1 W' bel) (trodAll_cons_mk (s2 W' bel) trodAll_mk0))),rfl,bel.frame _,fun h=>by cases h⟩
theorem laid_met (os:Os):laidMet Tryz.prog Rows.disasmStmtsRow.laid ((laidWorld12 os).forCall (fun _ _=>0) ⟨#[],#[.int .i64 0,.int .i64 0,.slice none 0 0],[]⟩).memory:=
 laidMet_of_run3 10 (by kernel_rfl) (by kernel_rfl) (by kernel_rfl)
theorem reads (os:Os) {H:Type} (enc:TypeId × Value → H):∃ places,DataW.whole enc Tryz.prog ((laidWorld12 os).forCall (fun _ _=>0) ⟨#[],#[.int .i64 0,.int .i64 0,.slice none 0 0],[]⟩).memory Tryz.f3.params.toList Rows.disasmStmtsSpec.vars false (#[.int .i64 0,.int .i64 0,.slice none 0 0]:Array Value).toList 8=some ([.lit (.int .i64 0),.lit (.int .i64 0),.nil],[],places):=
 ⟨[],by kernel_rfl⟩
set_option maxRecDepth 100000 in
theorem lifted (os:Os) (started:os.Started) (H:Type) (enc:TypeId × Value → H) (F:Stop.Interp) :
  ReturnsInHanded {} Tryz.checked os 3 .any ((OpenSpec.ofChange Rows.disasmStmtsSpec).preRow enc Tryz.prog Tryz.f3 Rows.disasmStmtsRow.domain false Rows.disasmStmtsRow.laid) (((OpenSpec.ofChange Rows.disasmStmtsSpec).at F).post enc Tryz.prog Tryz.f3 false true false false):=by
 obtain ⟨places,hx⟩:=reads os enc
 refine returnsInHanded_of_row (C:=Tryz.checked) (s:=OpenSpec.ofChange Rows.disasmStmtsSpec) own started (by kernel_rfl) Tryz.func3
  (witness_row_atRef (enc:=enc) (C:=Tryz.checked) false (laidWorld12 os) #[.int .i64 0,.int .i64 0,.slice none 0 0] rfl (by kernel_rfl) (by kernel_rfl) (by kernel_rfl)
   (OpenSpec.preRow_of_cond 8 hx (by kernel_rfl) (fun k hk=>by cases hk) (by kernel_rfl) (laid_met os))) ?_
 intro W base args ds gs before hval hW _ _ _ hlm hsh _
 exact contract H enc W base args ds gs before hval hW (gw12 (plainH (by kernel_rfl) hlm) hsh)
theorem said:Rows.DisasmStmtsSaid:=
 OpenClaim.holds_of_cond 3 Tryz.f3 rfl rfl rfl rfl rfl rfl rfl ⟨rfl,rfl,rfl,rfl,rfl⟩ rfl rfl rfl rfl rfl (by kernel_rfl) Tryz.func3 (by kernel_rfl)
  (of_decide_eq_true (by kernel_rfl)) (by unfold Func.isWrapper;first | (rw [if_pos (by decide +kernel)];kernel_rfl) | (rw [if_neg (by decide +kernel)];exact ⟨rfl,rfl⟩))
  (fun os started H enc _ F=>by rw [OpenClaim.pre_eq_preRow];exact lifted os started H enc F)
theorem plain (f:FuncId) (fn:Func) (hf:Tryz.pinned.checked.prog.funcNamed Tryz.f3.name=some f) (hfn:Tryz.pinned.checked.prog.funcs[f]? = some fn) :
  false=Tryz.pinned.checked.prog.looks []∧∀ (j:Nat) t,fn.params[j]? = some t → Tryz.pinned.checked.prog.wantsStandIn t=false:=by
 obtain rfl:f=3:=Option.some.inj ((show Tryz.prog.funcNamed Tryz.f3.name=some 3 by kernel_rfl).symm.trans hf) |>.symm
 obtain rfl:fn=Tryz.f3:=(Option.some.inj (Tryz.func3.symm.trans hfn)).symm
 refine ⟨by kernel_rfl,fun j t ht=>?_⟩
 rw [Tryz.params3] at ht
 have ht':=Array.mem_of_getElem? ht
 simp only [List.mem_toArray,List.mem_cons,List.not_mem_nil,or_false] at ht'
 rcases ht' with rfl | rfl | rfl
 ·exact (show Tryz.prog.wantsStandIn 3=false by kernel_rfl)
 ·exact (show Tryz.prog.wantsStandIn 3=false by kernel_rfl)
 ·exact (show Tryz.prog.wantsStandIn 22=false by kernel_rfl)
theorem card:Rows.DisasmStmtsCardSaid:=
 Claim7.holds_tied_plain_at .later [] _ _ _ _ said (fun _ h=>by cases h) (by kernel_rfl) (fun _ h=>by cases h) disasmStmts_row_tie rfl ⟨rfl,rfl⟩ (by kernel_rfl) rfl plain (by kernel_rfl)
#print axioms card
end Go.Proofs.YtagplldaooipmaaGreatDoor.disasmStmts
