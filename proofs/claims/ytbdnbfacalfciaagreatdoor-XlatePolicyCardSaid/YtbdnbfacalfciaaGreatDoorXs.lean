/- Several texts in one: OpenS, LnP, Law20, XlatePolicy. -/
import Derived.Test.YtbdnbfacalfciaaGreatDoorKa
import Derived.Deep.Slices
import Derived.Deep.Fields
import Derived.ChangeSame
import Derived.WideKeyArgs
import Derived.KernelRfl
import Derived.OpenShut
import Derived.Test.YtbdnbfacalfciaaGreatDoorKm
import Derived.ProofKit
import Derived.Lib.LaidTab
import Derived.Shelf.Vars
import Derived.MakeChecks
import Derived.Stop.LaidErr
import Derived.Test.YtbdnbfacalfciaaGreatDoorXx
import Derived.Test.YtbdnbfacalfciaaGreatDoorCards
import Derived.Test.YtbdnbfacalfciaaGreatDoorTie
import Derived.ShutString
import Derived.ChangeOld
import Derived.Below
import Derived.Deep.DeepHandedRow
import Derived.Deep.DeepLaidRun
import Derived.Deep.DeepWitnessRowRef
namespace Go.Proofs.YtbdnbfacalfciaaGreatDoor
open Go.RowKit Go.ChangeShapes Go.WideShapes Go.Deep
theorem laid_out:laidOutB Tryz.prog=true:=by kernel_rfl
/-- An argument reads behind the call as before. -/
theorem stays {H:Type} {enc:TypeId × Value->H} {W W':World} {t:TypeId} {v:Value} {d:DataW H} {ps:List MemPlace} (hr:Tryz.prog.readableRec t=true) (hrow:t < Tryz.prog.types.size)
  (h:DataW.Trod enc Tryz.prog W 0 (fun _=>true) true t v d ps) (hlt:∀ p∈ps,p.block<W.heap.size) (bel:Below W.heap.size W W'):DataW.Trod enc Tryz.prog W' 0 (fun b=>decide (b<W.heap.size)) true t v d ps:=
 Go.WideElems.Trod_stays laid_out hr hrow h (fun p hp=>bel.same (hlt p hp)) (fun p hp=>by simpa using hlt p hp)
open Go.RowKit
theorem gw12 {W:World} (h0:laidMet Tryz.prog Rows.xlatePolicyRow.laid W) (hsh:W.ShapedOpen Tryz.prog):GWL W:=by
 have e2:(Rows.laid_strings_asciiSpace:DataW Unit)=Lib.tabData .u8 Lib.asciiSpaceTab:=by kernel_rfl
 have h2:=h0.tail.tail
 rw [e2] at h2
 exact ⟨Lib.tabIs_of_head (g:=3) (t:=326) (e:=5) (n:=256) (by kernel_rfl) (by kernel_rfl) (by kernel_rfl) (by kernel_rfl) (by kernel_rfl) (by kernel_rfl) h2,
  cell_of_shapedOpen_int (t:=3) (zero:=#[.int .i64 0]) hsh (of_decide_eq_true (by kernel_rfl)) (by kernel_rfl) rfl (by kernel_rfl) (by kernel_rfl) Tryz.underlying3⟩
def layIn12 (cs:List Value):Obj->Obj
 | .cells _ t frozen=>.cells cs.toArray t frozen
 | o=>o
/-- The settled world, the tables holding what their texts lay. -/
noncomputable def laidWorld12 (os:Os):World:=
 let N:=(World.settled Tryz.prog os).heap.size
 let w0:=World.holding Tryz.prog os ⟨#[.cells ([9,13,1,32,133,101,160,5760,5600,8192,8202,1,8232,8233,1,8239,8287,48,12288,12288,1].map fun (n:Nat)=>Value.int .u16 (n:Int)).toArray 367,.cells #[.slice (some ⟨N,0,none⟩) 7 7,.slice none 0 0,.int .i64 2] 365],#[],[]⟩
 { w0 with heap:=(((w0.heap.modify 1 (layIn12 (Go.Pinned.utf8FirstZ.map fun (n:Nat)=>Value.int .u8 (n:Int)))).modify 2 (layIn12 ([128,191,160,191,128,159,144,191,128,143,0,0,0,0,0,0,0,0,0,0,0,0,0,0,0,0,0,0,0,0,0,0].map fun (n:Nat)=>Value.int .u8 (n:Int)))).modify 3 (layIn12 ([0,0,0,0,0,0,0,0,0,1,1,1,1,1,0,0,0,0,0,0,0,0,0,0,0,0,0,0,0,0,0,0,1,0,0,0,0,0,0,0,0,0,0,0,0,0,0,0,0,0,0,0,0,0,0,0,0,0,0,0,0,0,0,0,0,0,0,0,0,0,0,0,0,0,0,0,0,0,0,0,0,0,0,0,0,0,0,0,0,0,0,0,0,0,0,0,0,0,0,0,0,0,0,0,0,0,0,0,0,0,0,0,0,0,0,0,0,0,0,0,0,0,0,0,0,0,0,0,0,0,0,0,0,0,0,0,0,0,0,0,0,0,0,0,0,0,0,0,0,0,0,0,0,0,0,0,0,0,0,0,0,0,0,0,0,0,0,0,0,0,0,0,0,0,0,0,0,0,0,0,0,0,0,0,0,0,0,0,0,0,0,0,0,0,0,0,0,0,0,0,0,0,0,0,0,0,0,0,0,0,0,0,0,0,0,0,0,0,0,0,0,0,0,0,0,0,0,0,0,0,0,0,0,0,0,0,0,0,0,0,0,0,0,0,0,0,0,0,0,0,0,0,0,0,0,0].map fun (n:Nat)=>Value.int .u8 (n:Int)))).modify 4 (layIn12 [.pointer (some ⟨N+1,0,none⟩)]) }
theorem plainH {W:World} {l:List (String × DataW Unit)} (hl:(l.all fun x=>x.2.handleName?.isNone)=true) (h:laidMetH Tryz.prog l W):laidMet Tryz.prog l W:=by
 rwa [Go.MakeChecks.laidMetH_plain _ _ _ hl] at h
theorem out_d:outX ⟨0,33,4⟩ ⟨3,118,0⟩ ⟨[],false,[77,79,86],[wordA [66,88],numA 4]⟩ [] 0=(srcS 2 xt2).1:=by rw [src_xt2];kernel_rfl
theorem out_0:outX ⟨0,35,0⟩ ⟨1,118,0⟩ (opSt [76,65,72,70]) [⟨[],false,[73,78,67],[wordA [66,88]]⟩,opSt [83,65,72,70]] 0=(srcS 2 xt1).1:=by rw [src_xt1];kernel_rfl
theorem good_d:XGood (nodesL (asmF fd80 0 xd).1.lines) (asmF fd80 0 xd).1.entry ⟨0,33,4⟩ ⟨3,118,0⟩ ⟨[],false,[77,79,86],[wordA [66,88],numA 4]⟩ [] xt2:=by
 rw [xd_nd.1,xd_nd.2]
 exact ⟨rfl,.inl rfl,rfl,rfl,by decide,by decide,by decide,fun W=>ins_lxi 4 (by decide) W,by decide,by rw [out_d];exact fun s hs=>(srcS_good 2 xt2 s hs).2,by rw [out_d,src_xt2];kernel_rfl,by decide,fun W hW=>a86_xt2 W hW⟩
theorem good_0:XGood (nodesL (asmF fd80 0 x0).1.lines) (asmF fd80 0 x0).1.entry ⟨0,35,0⟩ ⟨1,118,0⟩ (opSt [76,65,72,70]) [⟨[],false,[73,78,67],[wordA [66,88]]⟩,opSt [83,65,72,70]] xt1:=by
 rw [x0_nd.1,x0_nd.2]
 exact ⟨rfl,.inr rfl,rfl,rfl,by decide,by decide,by decide,fun W=>ins_inx W,by decide,by rw [out_0];exact fun s hs=>(srcS_good 2 xt1 s hs).2,by rw [out_0,src_xt1];kernel_rfl,by decide,fun W hW=>a86_xt1 W hW⟩
theorem two_of {w:World} {h:Nat} {c0 c1:Value} {T:TypeId} (hh:w.heap[h]? = some (.cells #[c0,c1] T (0,0))):w.cell? ⟨h,0,none⟩=some c0/\w.cell? ⟨h,1,none⟩=some c1:=⟨coh hh,coh hh⟩
set_option maxHeartbeats 2000000 in
set_option maxRecDepth 100000 in
theorem alive20_any (w:World) (hg:GWL w):Calls Tryz.prog 7 #[] w fun e w'=>e=.returned (.bool true)/\Below w.heap.size w w':=by
 have HS:=LH (xsrc_any x0 xt1 0 0 x0_ok.1 (chkX_of x0_ok.2) (fun _=>⟨rfl,_,_,_,_,good_0⟩) (by decide) w hg)
 go_enter Tryz.func7, Tryz.ntmps7
 go_wp2_with fail
 refine HS.out.mono ?_
 rintro e w1 ⟨s1,A1,n1,c1,A2,n2,c2,rfl,hs,hb⟩
 obtain rfl:=hs rfl
 have B1:=LH hb
 clear hs hb HS
 simp only [show ((0:Nat):Int)=0 from rfl]
 go_wp2_with fail
 go_ret
 exact ⟨rfl,(B1.out.alloc B1.out.size _).alloc (by have:=B1.out.size;simp;omega) _⟩
set_option maxHeartbeats 4000000 in
set_option maxRecDepth 100000 in
theorem xlatePolicy_nat (n:Nat) (hn:n<=65535) (w:World) (hg:GWL w) :
  Calls Tryz.prog 3 #[.int .u16 (n:Nat)] w fun r w'=>r=.returned (.bool true)/\Below w.heap.size w w':=by
 have Ha:=LH (fun W (hW:GWL W)=>xsrc_any xa [] 2 9 xa_ok.1 (chkX_of xa_ok.2) (fun h=>absurd h (by decide)) (by decide) W hW)
 have Hb:=LH (fun W (hW:GWL W)=>xsrc_any xb [] 2 10 xb_ok.1 (chkX_of xb_ok.2) (fun h=>absurd h (by decide)) (by decide) W hW)
 have Hc:=LH (fun W (hW:GWL W)=>xsrc_any xc [] 1 10 xc_ok.1 (chkX_of xc_ok.2) (fun h=>absurd h (by decide)) (by decide) W hW)
 have Hd:=LH (fun W (hW:GWL W)=>xsrc_any xd xt2 0 0 xd_ok.1 (chkX_of xd_ok.2) (fun _=>⟨rfl,_,_,_,_,good_d⟩) (by decide) W hW)
 have He:=LH (fun W (hW:GWL W)=>xsrc_any xe [] 0 10 xe_ok.1 (chkX_of xe_ok.2) (fun h=>absurd h (by decide)) (by decide) W hW)
 have Hf:=LH (fun W (hW:GWL W)=>xsrc_any xf [] 2 9 xf_ok.1 (chkX_of xf_ok.2) (fun h=>absurd h (by decide)) (by decide) W hW)
 have HL:=LH (fun W=>xlabel_any n W)
 have HRL:=LH (fun W=>refLabel_any n (by omega) W)
 have HAl:=LH (fun W (hW:GWL W)=>alive20_any W hW)
 have HG:=LH hg
 have B0:=LH (Below.refl w.heap.size w)
 have w16:IntKind.i64.wrap (n:Int)=(n:Int):=by rw [IntWalk.i64_in _ (by omega)]
 generalize labelD n=lab at *
 clear hg hn
 go_enter Tryz.func3, Tryz.ntmps3
 go_wp2_with fail
 refine (Ha.out _ (HG.out.below B0.out)).mono ?_
 rintro e w1 ⟨s1,A1a,n1a,c1a,A1b,n1b,c1b,rfl,-,hb⟩
 have B1:=LH (bthen B0.out hb)
 have C1:=LH ((B1.out.alloc B1.out.size (.cells #[.string ⟨s1.toArray⟩,.slice A1a n1a c1a,.slice A1b n1b c1b] 26)).alloc (by have:=B1.out.size;simp;omega) (.cells #[.int .i64 2,.int .i64 9] 29))
 have Pa1':=LH (heap_last (w:=w1.alloc (.cells #[.string ⟨s1.toArray⟩,.slice A1a n1a c1a,.slice A1b n1b c1b] 26)) (n:=w1.heap.size+1) (by simp) (.cells #[.int .i64 2,.int .i64 9] 29))
 clear hb  Ha
 go_wp2_with fail
 refine (Hb.out _ (HG.out.below C1.out)).mono ?_
 rintro e w2 ⟨s1,A2a,n2a,c2a,A2b,n2b,c2b,rfl,-,hb⟩
 have B2:=LH (bthen C1.out hb)
 have Pa2:=LH ((hb.block _ (loh Pa1'.out)).trans Pa1'.out)
 have C2:=LH ((B2.out.alloc B2.out.size (.cells #[.string ⟨s1.toArray⟩,.slice A2a n2a c2a,.slice A2b n2b c2b] 26)).alloc (by have:=B2.out.size;simp;omega) (.cells #[.int .i64 2,.int .i64 10] 29))
 have Pb2':=LH (heap_last (w:=w2.alloc (.cells #[.string ⟨s1.toArray⟩,.slice A2a n2a c2a,.slice A2b n2b c2b] 26)) (n:=w2.heap.size+1) (by simp) (.cells #[.int .i64 2,.int .i64 10] 29))
 have Pa2':=LH ((Below.heap_alloc (w2.alloc (.cells #[.string ⟨s1.toArray⟩,.slice A2a n2a c2a,.slice A2b n2b c2b] 26)) (.cells #[.int .i64 2,.int .i64 10] 29) _ (by have:=loh Pa2.out;simp;omega)).trans ((Below.heap_alloc w2 (.cells #[.string ⟨s1.toArray⟩,.slice A2a n2a c2a,.slice A2b n2b c2b] 26) _ (loh Pa2.out)).trans Pa2.out))
 clear hb Pa2 Pa1' Hb
 go_wp2_with fail
 refine (Hc.out _ (HG.out.below C2.out)).mono ?_
 rintro e w3 ⟨s1,A3a,n3a,c3a,A3b,n3b,c3b,rfl,-,hb⟩
 have B3:=LH (bthen C2.out hb)
 have Pa3:=LH ((hb.block _ (loh Pa2'.out)).trans Pa2'.out)
 have Pb3:=LH ((hb.block _ (loh Pb2'.out)).trans Pb2'.out)
 have C3:=LH ((B3.out.alloc B3.out.size (.cells #[.string ⟨s1.toArray⟩,.slice A3a n3a c3a,.slice A3b n3b c3b] 26)).alloc (by have:=B3.out.size;simp;omega) (.cells #[.int .i64 1,.int .i64 10] 29))
 have Pc3':=LH (heap_last (w:=w3.alloc (.cells #[.string ⟨s1.toArray⟩,.slice A3a n3a c3a,.slice A3b n3b c3b] 26)) (n:=w3.heap.size+1) (by simp) (.cells #[.int .i64 1,.int .i64 10] 29))
 have Pa3':=LH ((Below.heap_alloc (w3.alloc (.cells #[.string ⟨s1.toArray⟩,.slice A3a n3a c3a,.slice A3b n3b c3b] 26)) (.cells #[.int .i64 1,.int .i64 10] 29) _ (by have:=loh Pa3.out;simp;omega)).trans ((Below.heap_alloc w3 (.cells #[.string ⟨s1.toArray⟩,.slice A3a n3a c3a,.slice A3b n3b c3b] 26) _ (loh Pa3.out)).trans Pa3.out))
 have Pb3':=LH ((Below.heap_alloc (w3.alloc (.cells #[.string ⟨s1.toArray⟩,.slice A3a n3a c3a,.slice A3b n3b c3b] 26)) (.cells #[.int .i64 1,.int .i64 10] 29) _ (by have:=loh Pb3.out;simp;omega)).trans ((Below.heap_alloc w3 (.cells #[.string ⟨s1.toArray⟩,.slice A3a n3a c3a,.slice A3b n3b c3b] 26) _ (loh Pb3.out)).trans Pb3.out))
 clear hb Pa3 Pa2' Pb3 Pb2' Hc
 go_wp2_with fail
 refine (Hd.out _ (HG.out.below C3.out)).mono ?_
 rintro e w4 ⟨s1,A4a,n4a,c4a,A4b,n4b,c4b,rfl,-,hb⟩
 have B4:=LH (bthen C3.out hb)
 simp only [show ((0:Nat):Int)=0 from rfl]
 have Pa4:=LH ((hb.block _ (loh Pa3'.out)).trans Pa3'.out)
 have Pb4:=LH ((hb.block _ (loh Pb3'.out)).trans Pb3'.out)
 have Pc4:=LH ((hb.block _ (loh Pc3'.out)).trans Pc3'.out)
 have C4:=LH ((B4.out.alloc B4.out.size (.cells #[.string ⟨s1.toArray⟩,.slice A4a n4a c4a,.slice A4b n4b c4b] 26)).alloc (by have:=B4.out.size;simp;omega) (.cells #[.int .i64 0,.int .i64 0] 29))
 have Pd4':=LH (heap_last (w:=w4.alloc (.cells #[.string ⟨s1.toArray⟩,.slice A4a n4a c4a,.slice A4b n4b c4b] 26)) (n:=w4.heap.size+1) (by simp) (.cells #[.int .i64 0,.int .i64 0] 29))
 have Pa4':=LH ((Below.heap_alloc (w4.alloc (.cells #[.string ⟨s1.toArray⟩,.slice A4a n4a c4a,.slice A4b n4b c4b] 26)) (.cells #[.int .i64 0,.int .i64 0] 29) _ (by have:=loh Pa4.out;simp;omega)).trans ((Below.heap_alloc w4 (.cells #[.string ⟨s1.toArray⟩,.slice A4a n4a c4a,.slice A4b n4b c4b] 26) _ (loh Pa4.out)).trans Pa4.out))
 have Pb4':=LH ((Below.heap_alloc (w4.alloc (.cells #[.string ⟨s1.toArray⟩,.slice A4a n4a c4a,.slice A4b n4b c4b] 26)) (.cells #[.int .i64 0,.int .i64 0] 29) _ (by have:=loh Pb4.out;simp;omega)).trans ((Below.heap_alloc w4 (.cells #[.string ⟨s1.toArray⟩,.slice A4a n4a c4a,.slice A4b n4b c4b] 26) _ (loh Pb4.out)).trans Pb4.out))
 have Pc4':=LH ((Below.heap_alloc (w4.alloc (.cells #[.string ⟨s1.toArray⟩,.slice A4a n4a c4a,.slice A4b n4b c4b] 26)) (.cells #[.int .i64 0,.int .i64 0] 29) _ (by have:=loh Pc4.out;simp;omega)).trans ((Below.heap_alloc w4 (.cells #[.string ⟨s1.toArray⟩,.slice A4a n4a c4a,.slice A4b n4b c4b] 26) _ (loh Pc4.out)).trans Pc4.out))
 clear hb Pa4 Pa3' Pb4 Pb3' Pc4 Pc3' Hd
 go_wp2_with fail
 refine (He.out _ (HG.out.below C4.out)).mono ?_
 rintro e w5 ⟨s1,A5a,n5a,c5a,A5b,n5b,c5b,rfl,-,hb⟩
 have B5:=LH (bthen C4.out hb)
 simp only [show ((0:Nat):Int)=0 from rfl]
 have Pa5:=LH ((hb.block _ (loh Pa4'.out)).trans Pa4'.out)
 have Pb5:=LH ((hb.block _ (loh Pb4'.out)).trans Pb4'.out)
 have Pc5:=LH ((hb.block _ (loh Pc4'.out)).trans Pc4'.out)
 have Pd5:=LH ((hb.block _ (loh Pd4'.out)).trans Pd4'.out)
 have C5:=LH ((B5.out.alloc B5.out.size (.cells #[.string ⟨s1.toArray⟩,.slice A5a n5a c5a,.slice A5b n5b c5b] 26)).alloc (by have:=B5.out.size;simp;omega) (.cells #[.int .i64 0,.int .i64 10] 29))
 have Pe5':=LH (heap_last (w:=w5.alloc (.cells #[.string ⟨s1.toArray⟩,.slice A5a n5a c5a,.slice A5b n5b c5b] 26)) (n:=w5.heap.size+1) (by simp) (.cells #[.int .i64 0,.int .i64 10] 29))
 have Pa5':=LH ((Below.heap_alloc (w5.alloc (.cells #[.string ⟨s1.toArray⟩,.slice A5a n5a c5a,.slice A5b n5b c5b] 26)) (.cells #[.int .i64 0,.int .i64 10] 29) _ (by have:=loh Pa5.out;simp;omega)).trans ((Below.heap_alloc w5 (.cells #[.string ⟨s1.toArray⟩,.slice A5a n5a c5a,.slice A5b n5b c5b] 26) _ (loh Pa5.out)).trans Pa5.out))
 have Pb5':=LH ((Below.heap_alloc (w5.alloc (.cells #[.string ⟨s1.toArray⟩,.slice A5a n5a c5a,.slice A5b n5b c5b] 26)) (.cells #[.int .i64 0,.int .i64 10] 29) _ (by have:=loh Pb5.out;simp;omega)).trans ((Below.heap_alloc w5 (.cells #[.string ⟨s1.toArray⟩,.slice A5a n5a c5a,.slice A5b n5b c5b] 26) _ (loh Pb5.out)).trans Pb5.out))
 have Pc5':=LH ((Below.heap_alloc (w5.alloc (.cells #[.string ⟨s1.toArray⟩,.slice A5a n5a c5a,.slice A5b n5b c5b] 26)) (.cells #[.int .i64 0,.int .i64 10] 29) _ (by have:=loh Pc5.out;simp;omega)).trans ((Below.heap_alloc w5 (.cells #[.string ⟨s1.toArray⟩,.slice A5a n5a c5a,.slice A5b n5b c5b] 26) _ (loh Pc5.out)).trans Pc5.out))
 have Pd5':=LH ((Below.heap_alloc (w5.alloc (.cells #[.string ⟨s1.toArray⟩,.slice A5a n5a c5a,.slice A5b n5b c5b] 26)) (.cells #[.int .i64 0,.int .i64 10] 29) _ (by have:=loh Pd5.out;simp;omega)).trans ((Below.heap_alloc w5 (.cells #[.string ⟨s1.toArray⟩,.slice A5a n5a c5a,.slice A5b n5b c5b] 26) _ (loh Pd5.out)).trans Pd5.out))
 clear hb Pa5 Pa4' Pb5 Pb4' Pc5 Pc4' Pd5 Pd4' He
 go_wp2_with fail
 refine (Hf.out _ (HG.out.below C5.out)).mono ?_
 rintro e w6 ⟨s1,A6a,n6a,c6a,A6b,n6b,c6b,rfl,-,hb⟩
 have B6:=LH (bthen C5.out hb)
 have Pa6:=LH ((hb.block _ (loh Pa5'.out)).trans Pa5'.out)
 have Pb6:=LH ((hb.block _ (loh Pb5'.out)).trans Pb5'.out)
 have Pc6:=LH ((hb.block _ (loh Pc5'.out)).trans Pc5'.out)
 have Pd6:=LH ((hb.block _ (loh Pd5'.out)).trans Pd5'.out)
 have Pe6:=LH ((hb.block _ (loh Pe5'.out)).trans Pe5'.out)
 have C6:=LH ((B6.out.alloc B6.out.size (.cells #[.string ⟨s1.toArray⟩,.slice A6a n6a c6a,.slice A6b n6b c6b] 26)).alloc (by have:=B6.out.size;simp;omega) (.cells #[.int .i64 2,.int .i64 9] 29))
 have Pf6':=LH (heap_last (w:=w6.alloc (.cells #[.string ⟨s1.toArray⟩,.slice A6a n6a c6a,.slice A6b n6b c6b] 26)) (n:=w6.heap.size+1) (by simp) (.cells #[.int .i64 2,.int .i64 9] 29))
 have Pa6':=LH ((Below.heap_alloc (w6.alloc (.cells #[.string ⟨s1.toArray⟩,.slice A6a n6a c6a,.slice A6b n6b c6b] 26)) (.cells #[.int .i64 2,.int .i64 9] 29) _ (by have:=loh Pa6.out;simp;omega)).trans ((Below.heap_alloc w6 (.cells #[.string ⟨s1.toArray⟩,.slice A6a n6a c6a,.slice A6b n6b c6b] 26) _ (loh Pa6.out)).trans Pa6.out))
 have Pb6':=LH ((Below.heap_alloc (w6.alloc (.cells #[.string ⟨s1.toArray⟩,.slice A6a n6a c6a,.slice A6b n6b c6b] 26)) (.cells #[.int .i64 2,.int .i64 9] 29) _ (by have:=loh Pb6.out;simp;omega)).trans ((Below.heap_alloc w6 (.cells #[.string ⟨s1.toArray⟩,.slice A6a n6a c6a,.slice A6b n6b c6b] 26) _ (loh Pb6.out)).trans Pb6.out))
 have Pc6':=LH ((Below.heap_alloc (w6.alloc (.cells #[.string ⟨s1.toArray⟩,.slice A6a n6a c6a,.slice A6b n6b c6b] 26)) (.cells #[.int .i64 2,.int .i64 9] 29) _ (by have:=loh Pc6.out;simp;omega)).trans ((Below.heap_alloc w6 (.cells #[.string ⟨s1.toArray⟩,.slice A6a n6a c6a,.slice A6b n6b c6b] 26) _ (loh Pc6.out)).trans Pc6.out))
 have Pd6':=LH ((Below.heap_alloc (w6.alloc (.cells #[.string ⟨s1.toArray⟩,.slice A6a n6a c6a,.slice A6b n6b c6b] 26)) (.cells #[.int .i64 2,.int .i64 9] 29) _ (by have:=loh Pd6.out;simp;omega)).trans ((Below.heap_alloc w6 (.cells #[.string ⟨s1.toArray⟩,.slice A6a n6a c6a,.slice A6b n6b c6b] 26) _ (loh Pd6.out)).trans Pd6.out))
 have Pe6':=LH ((Below.heap_alloc (w6.alloc (.cells #[.string ⟨s1.toArray⟩,.slice A6a n6a c6a,.slice A6b n6b c6b] 26)) (.cells #[.int .i64 2,.int .i64 9] 29) _ (by have:=loh Pe6.out;simp;omega)).trans ((Below.heap_alloc w6 (.cells #[.string ⟨s1.toArray⟩,.slice A6a n6a c6a,.slice A6b n6b c6b] 26) _ (loh Pe6.out)).trans Pe6.out))
 clear hb Pa6 Pa5' Pb6 Pb5' Pc6 Pc5' Pd6 Pd5' Pe6 Pe5' Hf
 obtain ⟨a0,a1⟩:=two_of Pa6'.out
 obtain ⟨b0,b1⟩:=two_of Pb6'.out
 obtain ⟨c0,c1⟩:=two_of Pc6'.out
 obtain ⟨d0,d1⟩:=two_of Pd6'.out
 obtain ⟨e0,e1⟩:=two_of Pe6'.out
 obtain ⟨f0,f1⟩:=two_of Pf6'.out
 go_wp2_with fail
 refine (HL.out _).mono ?_
 rintro e wl ⟨rfl,hb⟩
 have BL:=LH (bthen C6.out hb)
 clear hb HL
 go_wp2_with fail
 refine (HRL.out _).mono ?_
 rintro e wm ⟨rfl,hb⟩
 have BM:=LH (bthen BL.out hb)
 clear hb HRL
 go_wp2_with fail
 refine (HAl.out _ (HG.out.below BM.out)).mono ?_
 rintro e wn ⟨rfl,hb⟩
 go_wp2_with fail
 go_ret
 exact ⟨rfl,bthen BM.out hb⟩
theorem xlatePolicy_walk (n:Int) (w:World) (hg:GWL w) (h:(Lit.int .u16 n).wf=true) :
  Calls Tryz.prog 3 #[.int .u16 n] w fun r w'=>r=.returned (.bool true)/\Below w.heap.size w w':=by
 simp only [Lit.wf,Bool.and_eq_true,decide_eq_true_eq] at h
 obtain ⟨b1,b2⟩:=h
 have b3:(0:Int)<=n:=b1
 have b4:n<=(65535:Int):=b2
 obtain ⟨m,rfl⟩:∃ m:Nat,n=m:=⟨n.toNat,by omega⟩
 exact xlatePolicy_nat m (by omega) w hg
end Go.Proofs.YtbdnbfacalfciaaGreatDoor
/- XlatePolicy: for every input the law returns true, and its arguments read as before; the card ties the tables of the library that its row lists. No further condition. -/
namespace Go.Proofs.YtbdnbfacalfciaaGreatDoor.xlatePolicy
open Go.ChangeShapes Go.WideShapes Go.ChangeAt Go.RowKit
open Go.ChangeMaps (open_string shut_string)
theorem own:ownKnob Tryz.prog.godebug=none:=by kernel_rfl
set_option maxRecDepth 100000 in
theorem contract (H:Type) (enc:TypeId × Value->H) (W:World) (base:Nat) (args:Array Value) (ds gs:List (DataW H)) (before:List MemPlace)
  (hval:∀ (j:Nat) t v,Tryz.f3.params[j]? = some t->args[j]? = some v->Value.okWide Tryz.prog W .any base t v)
  (hW:DataW.Whole enc Tryz.prog Tryz.f3.params.toList Rows.xlatePolicySpec.vars false W args.toList ds gs before) (hgw:GWL W) :
  Calls Tryz.prog 3 args W fun e W'=>∃ v,e=.returned v/\Rows.xlatePolicySpec.post enc Tryz.prog Tryz.f3 false true false false W args v W':=by
 have hW':=hW
 obtain ⟨p,q,hA0,hV,rfl,hfz,hnd⟩:=hW
 have hA:DataW.TrodAll enc Tryz.prog W 0 (fun _=>true) true Tryz.f3.params.toList args.toList ds p:=hA0
 rw [Tryz.params3] at hA hval
 obtain ⟨v0,vs0,d0,ds0,p0,q0,hargs,rfl,rfl,h0,r0⟩:=trodAll_cons hA
 obtain ⟨rfl,rfl,rfl⟩:=trodAll_nil r0
 obtain rfl:args=#[v0]:=by cases args;simp_all
 obtain ⟨rfl,rfl⟩:=trodVars_none hV
 have s0:∀ W',Below W.heap.size W W'->DataW.Trod enc Tryz.prog W' 0 (fun b=>decide (b<W.heap.size)) true 22 v0 d0 p0:=fun W' bel=>stays (by kernel_rfl) (of_decide_eq_true (by kernel_rfl)) h0 (fun p hp=>hW'.lt p (by simp [hp])) bel
 obtain ⟨a0,rfl,rfl,rfl,w0⟩:=open_int Tryz.underlying22 (hval 0 22 v0 rfl rfl) h0
 clear hA0
 refine (xlatePolicy_walk a0 W hgw w0 ).mono fun e W' ⟨he,bel⟩=>?_
 subst he
 exact ⟨_,rfl,_,_,_,[],_,[],hW',trodAll_mk1 (shut_bool Tryz.underlying4 _),(trodAll_cons_mk (s0 W' bel) trodAll_mk0),rfl,bel.frame _,fun h=>by cases h⟩
theorem laid_met (os:Os):laidMet Tryz.prog Rows.xlatePolicyRow.laid ((laidWorld12 os).forCall (fun _ _=>0) ⟨#[],#[.int .u16 0],[]⟩).memory:=
 laidMet_of_run3 10 (by kernel_rfl) (by kernel_rfl) (by kernel_rfl)
theorem reads (os:Os) {H:Type} (enc:TypeId × Value->H):∃ places,DataW.whole enc Tryz.prog ((laidWorld12 os).forCall (fun _ _=>0) ⟨#[],#[.int .u16 0],[]⟩).memory Tryz.f3.params.toList Rows.xlatePolicySpec.vars false (#[.int .u16 0]:Array Value).toList 8=some ([.lit (.int .u16 0)],[],places):=
 ⟨[],by kernel_rfl⟩
set_option maxRecDepth 100000 in
theorem lifted (os:Os) (started:os.Started) (H:Type) (enc:TypeId × Value->H) (F:Stop.Interp) :
  ReturnsInHanded {} Tryz.checked os 3 .any ((OpenSpec.ofChange Rows.xlatePolicySpec).preRow enc Tryz.prog Tryz.f3 Rows.xlatePolicyRow.domain false Rows.xlatePolicyRow.laid) (((OpenSpec.ofChange Rows.xlatePolicySpec).at F).post enc Tryz.prog Tryz.f3 false true false false):=by
 obtain ⟨places,hx⟩:=reads os enc
 refine returnsInHanded_of_row (C:=Tryz.checked) (s:=OpenSpec.ofChange Rows.xlatePolicySpec) own started (by kernel_rfl) Tryz.func3
  (witness_row_atRef (enc:=enc) (C:=Tryz.checked) false (laidWorld12 os) #[.int .u16 0] rfl (by kernel_rfl) (by kernel_rfl) (by kernel_rfl)
   (OpenSpec.preRow_of_cond 8 hx (by kernel_rfl) (fun k hk=>by cases hk) (by kernel_rfl) (laid_met os))) ?_
 intro W base args ds gs before hval hW _ _ _ hlm hsh _
 exact contract H enc W base args ds gs before hval hW (gw12 (plainH (by kernel_rfl) hlm) hsh)
noncomputable abbrev Pz:=Tryz.pinned.checked.prog
noncomputable abbrev cz:=Rows.xlatePolicyRow
noncomputable abbrev sz:=(OpenSpec.ofChange Rows.xlatePolicySpec).bare
abbrev fz:FuncId:=3
noncomputable abbrev nz:=Tryz.f3
theorem z0:((cz.wf (OpenSpec.ofChange sz)))=true:=by kernel_rfl
theorem z1:(laidOutB Pz)=true:=by kernel_rfl
theorem z2:(mapsRowed Pz)=true:=by kernel_rfl
theorem z3:(nz.params.all (Pz.readableRec ·))=true:=by kernel_rfl
theorem z4:(namedTie Pz cz.named sz.vars)=true:=by kernel_rfl
theorem z5:(cz.stops == [])=true:=by kernel_rfl
theorem z6:(Pz.stops == [])=true:=by kernel_rfl
theorem z7:(cz.knobs == [])=true:=by kernel_rfl
theorem z8:(Pz.stopKnobs == [])=true:=by kernel_rfl
theorem z9:(cz.inPlace == Pz.inPlace fz)=true:=by kernel_rfl
theorem z10:(cz.unfollowed == Pz.unfollowed fz)=true:=by kernel_rfl
theorem z11:(cz.recurses == Pz.recurses fz)=true:=by kernel_rfl
theorem z12:(cz.named == Pz.varsNamed fz)=true:=by kernel_rfl
theorem z13:(cz.maps == (nz.params.toList++sz.plain.varTypes Pz).any (Pz.mapsRec ·))=true:=by kernel_rfl
theorem z14:(cz.ifaces == (nz.params.toList++sz.plain.varTypes Pz).any (Pz.ifacesRec ·))=true:=by kernel_rfl
theorem z15:(cz.mapsOut == Pz.mapsAmong nz.resultTypes.toList)=true:=by kernel_rfl
theorem z16:(cz.loops == (nz.params.toList++sz.plain.varTypes Pz).any (Pz.loopsFrom ·))=true:=by kernel_rfl
theorem z17:(cz.wideKeys == (nz.params.toList++sz.plain.varTypes Pz++nz.resultTypes.toList).any (Pz.wideKeysFrom ·))=true:=by kernel_rfl
theorem z18:(sz.vars.all (Pz.varReadable ·))=true:=by kernel_rfl
theorem z19:(nz.resultTypes.all (fun t=>Pz.readableRec t && decide (t<Pz.types.size)))=true:=by kernel_rfl
theorem z20:(cz.ifacesOut == nz.resultTypes.toList.any (Pz.ifacesRec ·))=true:=by kernel_rfl
theorem z21:(cz.loopsOut == nz.resultTypes.toList.any (Pz.loopsFrom ·))=true:=by kernel_rfl
theorem z22:(cz.plainKeys == Pz.plainKeys)=true:=by kernel_rfl
theorem z23:(cz.shortTexts.isNone)=true:=by kernel_rfl
theorem z24:(Pz.stopsHeard)=true:=by kernel_rfl
theorem z25:(Pz.mayEnter)=true:=by kernel_rfl
theorem z26:(cz.lifted == Pz.liftsFinal)=true:=by kernel_rfl
theorem z27:(Pz.make == some cz.make)=true:=by kernel_rfl
theorem z28:(cz.kinds == (if cz.domain.isEmpty then [] else nz.params.toList.map fun t=>match Pz.underlying t with | some (.int k)=>some k | _=>none))=true:=by kernel_rfl
theorem z29:(cz.pinned == cz.pinnedBy)=true:=by kernel_rfl
theorem z30:(cz.veiled == (nz.params.toList++sz.plain.varTypes Pz++nz.resultTypes.toList).any (Pz.veiledRec ·))=true:=by kernel_rfl
theorem z31:(cz.veiledFits Pz nz.params.toList (nz.params.toList++sz.plain.varTypes Pz++nz.resultTypes.toList))=true:=by kernel_rfl
theorem zand {a b:Bool} (h1:a=true) (h2:b=true):(a && b)=true:=by rw [h1,h2];rfl
set_option maxRecDepth 100000 in
theorem closed:joinedFacts Pz fz nz sz cz=true:=by
 unfold joinedFacts
 exact (zand (zand (zand (zand (zand (zand (zand (zand (zand (zand (zand (zand (zand (zand (zand (zand (zand (zand (zand (zand (zand (zand (zand (zand (zand (zand (zand (zand (zand (zand (zand z0 z1) z2) z3) z4) z5) z6) z7) z8) z9) z10) z11) z12) z13) z14) z15) z16) z17) z18) z19) z20) z21) z22) z23) z24) z25) z26) z27) z28) z29) z30) z31)
theorem said:Rows.XlatePolicySaid:=
 OpenClaim.holds_of_cond 3 Tryz.f3 rfl rfl rfl rfl rfl rfl rfl ⟨rfl,rfl,rfl,rfl,rfl⟩ rfl rfl rfl rfl rfl (by kernel_rfl) Tryz.func3 closed
  (of_decide_eq_true (by kernel_rfl)) (by unfold Func.isWrapper;first | (rw [if_pos (by decide +kernel)];kernel_rfl) | (rw [if_neg (by decide +kernel)];exact ⟨rfl,rfl⟩))
  (fun os started H enc _ F=>by rw [OpenClaim.pre_eq_preRow];exact lifted os started H enc F)
theorem plain (f:FuncId) (fn:Func) (hf:Tryz.pinned.checked.prog.funcNamed Tryz.f3.name=some f) (hfn:Tryz.pinned.checked.prog.funcs[f]? = some fn) :
  false=Tryz.pinned.checked.prog.looks []/\∀ (j:Nat) t,fn.params[j]? = some t->Tryz.pinned.checked.prog.wantsStandIn t=false:=by
 obtain rfl:f=3:=Option.some.inj ((show Tryz.prog.funcNamed Tryz.f3.name=some 3 by kernel_rfl).symm.trans hf) |>.symm
 obtain rfl:fn=Tryz.f3:=(Option.some.inj (Tryz.func3.symm.trans hfn)).symm
 refine ⟨by kernel_rfl,fun j t ht=>?_⟩
 rw [Tryz.params3] at ht
 obtain rfl:t=22:=by simpa using Array.mem_of_getElem? ht
 exact (show Tryz.prog.wantsStandIn 22=false by kernel_rfl)
theorem card:Rows.XlatePolicyCardSaid:=
 Claim7.holds_tied_plain_at .later [] _ _ _ _ said (fun _ h=>by cases h) (by kernel_rfl) (fun _ h=>by cases h) xlatePolicy_row_tie rfl ⟨rfl,rfl⟩ (by kernel_rfl) rfl plain (by kernel_rfl)
#print axioms card
end Go.Proofs.YtbdnbfacalfciaaGreatDoor.xlatePolicy
