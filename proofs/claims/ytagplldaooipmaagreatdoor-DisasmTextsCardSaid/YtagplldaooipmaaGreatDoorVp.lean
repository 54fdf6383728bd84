/- Vp. -/
import Derived.Test.YtagplldaooipmaaGreatDoorUg
import Derived.Test.YtagplldaooipmaaGreatDoorVo
import Derived.Test.YtagplldaooipmaaGreatDoorUf
import Derived.Test.YtagplldaooipmaaGreatDoorUa
import Derived.RegionTactic
import Derived.Deep.RegionLaw
import Derived.Deep.RegionHeld3
import Derived.Test.YtagplldaooipmaaGreatDoorLs
import Derived.Test.YtagplldaooipmaaGreatDoorVd
import Derived.StillTactics
import Derived.StillTailTactics
namespace Go.Proofs.YtagplldaooipmaaGreatDoor
open Go.RowKit
def SweepR (w:World) (first:Nat → List UInt8 → St × Nat × Int) (F pl0:Nat) (b0:List UInt8) (v at' bv:Value) (n:Nat) (wr:World):Prop:=∃ (f pl:Nat) (b:List UInt8) (l:List Pc) (vs:List Value),at'=.int .i64 pl∧RdB wr w.heap.size bv b∧PcOwn wr w.heap.size v l vs∧l ++ sweepF first f pl b=sweepF first F pl0 b0∧b.length ≤ f∧pl + b.length=pl0 + b0.length∧l.length + b.length ≤ b0.length∧b.length=n∧Below w.heap.size w wr
def lenOf (v:Value):Nat:=match v with | .slice _ n _=>n | _=>0
def SweepP (w:World) (l:List Pc) (e:Ending) (w':World):Prop:=∃ v vs,e=.returned v∧PcOwn w' w.heap.size v l vs∧Below w.heap.size w w'
theorem first80_size (d:Int) (b:List UInt8) (h0:b ≠ []):1 ≤ (first80D d b).2.1∧(first80D d b).2.1 ≤ b.length∧-1 ≤ (first80D d b).2.2∧(first80D d b).2.2 ≤ 65535:=by
 have hl:0 < b.length:=List.length_pos_iff.2 h0
 have h3:=read80_lt b
 unfold first80D
 split
 ·simp [dbD];omega
 ·rename_i hk
  have hk':(read80 b).2.2=0:=by simpa using hk
  have hs:1 ≤ (read80 b).2.1∧(read80 b).2.1 ≤ b.length:=by
   unfold read80 at hk' ⊢
   split <;> simp_all
   split <;> simp_all
   split <;> simp_all
   omega
  refine ⟨hs.1,hs.2,?_⟩
  simp only
  split <;> omega
abbrev firstX (d:Int):Nat → List UInt8 → St × Nat × Int:=firstD first86D d
theorem firstX_80 (d:Int) (h:d ≠ 2):firstX d=fun _ b=>first80D d b:=by funext pl b;unfold firstX firstD;rw [if_neg h]
theorem firstX_86:firstX 2=first86D:=by funext pl b;unfold firstX firstD;rw [if_pos rfl]
theorem firstX_size (d:Int) (pl:Nat) (b:List UInt8) (h0:b ≠ []):1 ≤ (firstX d pl b).2.1∧(firstX d pl b).2.1 ≤ b.length∧-1 ≤ (firstX d pl b).2.2∧(firstX d pl b).2.2 ≤ 65535:=by
 by_cases h:d=2
 ·subst h;rw [firstX_86];exact first86_size pl b h0
 ·rw [firstX_80 d h];exact first80_size d b h0
set_option maxHeartbeats 1000000 in
set_option maxRecDepth 100000 in
theorem sweep_any (d:Int) (pl0:Nat) (b0:List UInt8) (v:Value) (w:World) (hg:GWL w) (hr:RdB w w.heap.size v b0) (hl:pl0 + b0.length ≤ 1000000) :
  Calls Tryz.prog 13 #[.int .i64 d,.int .i64 pl0,v] w (SweepP w (sweepF (firstX d) b0.length pl0 b0)):=by
 obtain ⟨A,c,rfl,hc⟩:=hr.form
 generalize hres:sweepF (firstX d) b0.length pl0 b0=res
 have HRES:=Lib.hid hres
 clear hres
 have HR0:=Lib.hid hr
 clear hr
 have HFC:((d == 2)=true∧Hid (∀ (pl:Nat) (b:List UInt8) (v:Value) (W:World),GWL W → RdB W W.heap.size v b → pl + b.length ≤ 1000000 → b ≠ [] → Calls Tryz.prog 35 #[.int .i64 pl,v] W (StR W (firstX d pl b).1 (firstX d pl b).2.1 (firstX d pl b).2.2))) ∨
   ((d == 2)=false∧Hid (∀ (pl:Nat) (b:List UInt8) (v:Value) (W:World),GWL W → RdB W W.heap.size v b → pl + b.length ≤ 1000000 → b ≠ [] → Calls Tryz.prog 36 #[.int .i64 d,v] W (StR W (firstX d pl b).1 (firstX d pl b).2.1 (firstX d pl b).2.2))):=by
  by_cases h:d=2
  ·exact .inl ⟨by rw [beq_iff_eq];exact h,Lib.hid (fun pl b v W h1 h2 h3 h4=>by subst h;rw [firstX_86];exact first86_any pl b v W h1 h2 h3 h4)⟩
  ·exact .inr ⟨by rw [beq_eq_false_iff_ne];exact h,Lib.hid (fun pl b v W h1 h2 h3 h4=>by rw [firstX_80 d h];exact first80_any d b v W h1 h2 (by omega) h4)⟩
 rcases HFC with ⟨e2,HFC⟩ | ⟨e2,HFC⟩
 all_goals (
  go_enter Tryz.func13, Tryz.ntmps13
  go_wp2_with fail
  go_loopw [6,1,2] (fun v at' bv wr=>SweepR w (firstX d) b0.length pl0 b0 v at' bv (lenOf bv) wr) (fun _ _ bv _=>lenOf bv)
  case atStart=>exact ⟨b0.length,pl0,b0,[],[],rfl,HR0.out,PcOwn.nil _ _,rfl,Nat.le_refl _,rfl,by simp,rfl,Below.refl _ _⟩
  case round=>
   obtain ⟨f,pl,b,l,vs,rfl,hrb,hpc,hsw,hf,hpl,hll,hn,hbw⟩:=hrel
   obtain ⟨bA,bc,rfl,hbc⟩:=hrb.form
   obtain ⟨vA,vc,rfl,hvc,hvm,_⟩:=own_slice hpc.2.1 (by omega)
   have HPC:=Lib.hid hpc
   have HSW:=Lib.hid hsw
   have HBW:=Lib.hid hbw
   have HRB:=Lib.hid hrb
   have hsz:=hbw.size
   clear hpc hsw hbw hrb hn hvm
   by_cases h0:b = []
   ·subst h0
    have hfin:=HSW.out
    rw [show sweepF (firstX d) f pl [] = [] by cases f <;> rfl,List.append_nil] at hfin
    have HF:=Lib.hid (hfin.trans HRES.out)
    clear hfin
    go_wp2_with fail
    go_ret
    obtain rfl:=HF.out
    exact ⟨_,vs,rfl,HPC.out,HBW.out⟩
   ·have hb0:0 < b.length:=List.length_pos_iff.2 h0
    have HFS:=Lib.hid (firstX_size d pl b h0)
    have HF1:=Lib.hid (fun W (hW:Below wr.heap.size wr W)=>HFC.out pl b _ W (hg.below (HBW.out.trans (hW.mono hsz))) ((HRB.out.below (hW.mono hsz)).more (Nat.le_trans hsz hW.size)) (by omega) h0)
    obtain ⟨s1,s2,s3,s4⟩:=HFS.out
    obtain ⟨f',rfl⟩:∃ f',f=f' + 1:=⟨f - 1,by omega⟩
    have hstep:sweepF (firstX d) (f' + 1) pl b=⟨(firstX d pl b).1,pl,(firstX d pl b).2.1,(firstX d pl b).2.2⟩ :: sweepF (firstX d) f' (pl + (firstX d pl b).2.1) (b.drop (firstX d pl b).2.1):=by rw [sweepF,if_neg h0]
    have HST:=Lib.hid hstep
    clear hstep HFS
    generalize firstX d pl b=r at *
    obtain ⟨s,size,tg⟩:=r
    simp only at s1 s2 s3 s4
    simp only at HF1 HST
    go_wp2_with fail
    refine (HF1.out _ ((Below.refl _ _).alloc (Nat.le_refl _) _)).mono ?_
    rintro e w2 ⟨av,rfl,hown,hb2⟩
    obtain ⟨aA,ac,rfl,hac,ham,_⟩:=own_slice hown (by omega)
    have C2:=Lib.hid ((hb2.block wr.heap.size (by simp)).trans (heap_alloc_new wr (.cells #[.string ⟨#[]⟩,.bool false,.string ⟨#[]⟩,.slice none 0 0,.int .i64 (pl:Int),.int .i64 0,.int .i64 0] 46)))
    have O2:=Lib.hid hown
    have B2:=Lib.hid hb2
    clear hown hb2 HF1 ham
    have k0:=cell_of_heap (i:=0) C2.out
    have f0:=frozen_of_heap (i:=0) C2.out
    have k1:=cell_of_heap (i:=1) C2.out
    have f1:=frozen_of_heap (i:=1) C2.out
    have k2:=cell_of_heap (i:=2) C2.out
    have f2:=frozen_of_heap (i:=2) C2.out
    have k3:=cell_of_heap (i:=3) C2.out
    have f3:=frozen_of_heap (i:=3) C2.out
    have k4:=cell_of_heap (i:=4) C2.out
    have f4:=frozen_of_heap (i:=4) C2.out
    have k5:=cell_of_heap (i:=5) C2.out
    have f5:=frozen_of_heap (i:=5) C2.out
    have k6:=cell_of_heap (i:=6) C2.out
    have f6:=frozen_of_heap (i:=6) C2.out
    simp at k0 k1 k2 k3 k4 k5 k6 f0 f1 f2 f3 f4 f5 f6
    have hP2:wr.heap.size < w2.heap.size:=lt_of_heap C2.out
    have B3:=Lib.hid (show Below wr.heap.size wr ((((((w2.setCell ⟨wr.heap.size,0,none⟩ (.string ⟨s.label.toArray⟩)).setCell ⟨wr.heap.size,1,none⟩ (.bool s.colon)).setCell ⟨wr.heap.size,2,none⟩ (.string ⟨s.op.toArray⟩)).setCell ⟨wr.heap.size,3,none⟩ (.slice aA s.args.length ac)).setCell ⟨wr.heap.size,5,none⟩ (.int .i64 (size:Int))).setCell ⟨wr.heap.size,6,none⟩ (.int .i64 tg)) from (((((((bthen ((Below.refl _ _).alloc (Nat.le_refl _) _) B2.out).setCell (Nat.le_refl _) _).setCell (Nat.le_refl _) _).setCell (Nat.le_refl _) _).setCell (Nat.le_refl _) _).setCell (Nat.le_refl _) _).setCell (Nat.le_refl _) _))
    have Z3:((((((w2.setCell ⟨wr.heap.size,0,none⟩ (.string ⟨s.label.toArray⟩)).setCell ⟨wr.heap.size,1,none⟩ (.bool s.colon)).setCell ⟨wr.heap.size,2,none⟩ (.string ⟨s.op.toArray⟩)).setCell ⟨wr.heap.size,3,none⟩ (.slice aA s.args.length ac)).setCell ⟨wr.heap.size,5,none⟩ (.int .i64 (size:Int))).setCell ⟨wr.heap.size,6,none⟩ (.int .i64 tg)).heap.size=w2.heap.size:=by simp
    have hne:∀ g,(Value.slice vA l.length vc).ownBlock=some g → g < wr.heap.size:=fun g hg=>(HPC.out.2.1.lt g hg).2
    have HO8:=Lib.hid (show (((((((w2.setCell ⟨wr.heap.size,0,none⟩ (.string ⟨s.label.toArray⟩)).setCell ⟨wr.heap.size,1,none⟩ (.bool s.colon)).setCell ⟨wr.heap.size,2,none⟩ (.string ⟨s.op.toArray⟩)).setCell ⟨wr.heap.size,3,none⟩ (.slice aA s.args.length ac)).setCell ⟨wr.heap.size,5,none⟩ (.int .i64 (size:Int))).setCell ⟨wr.heap.size,6,none⟩ (.int .i64 tg)).alloc (.cells (pcCells ⟨s,pl,size,tg⟩ (.slice aA s.args.length ac)).toArray 46)).ownsRow w.heap.size 46 7 (.slice vA l.length vc) l.length (rowV pcCells l vs) from (own_below HPC.out.2.1 B3.out).alloc _)
    have HN8:=Lib.hid (rd_new ((((((w2.setCell ⟨wr.heap.size,0,none⟩ (.string ⟨s.label.toArray⟩)).setCell ⟨wr.heap.size,1,none⟩ (.bool s.colon)).setCell ⟨wr.heap.size,2,none⟩ (.string ⟨s.op.toArray⟩)).setCell ⟨wr.heap.size,3,none⟩ (.slice aA s.args.length ac)).setCell ⟨wr.heap.size,5,none⟩ (.int .i64 (size:Int))).setCell ⟨wr.heap.size,6,none⟩ (.int .i64 tg)) w2.heap.size Z3 (pcCells ⟨s,pl,size,tg⟩ (.slice aA s.args.length ac)) 46)
    have HU8:=Lib.hid (show ArgRow (((((((w2.setCell ⟨wr.heap.size,0,none⟩ (.string ⟨s.label.toArray⟩)).setCell ⟨wr.heap.size,1,none⟩ (.bool s.colon)).setCell ⟨wr.heap.size,2,none⟩ (.string ⟨s.op.toArray⟩)).setCell ⟨wr.heap.size,3,none⟩ (.slice aA s.args.length ac)).setCell ⟨wr.heap.size,5,none⟩ (.int .i64 (size:Int))).setCell ⟨wr.heap.size,6,none⟩ (.int .i64 tg)).alloc (.cells (pcCells ⟨s,pl,size,tg⟩ (.slice aA s.args.length ac)).toArray 46)) (fun g=>wr.heap.size ≤ g∧g < (((((((w2.setCell ⟨wr.heap.size,0,none⟩ (.string ⟨s.label.toArray⟩)).setCell ⟨wr.heap.size,1,none⟩ (.bool s.colon)).setCell ⟨wr.heap.size,2,none⟩ (.string ⟨s.op.toArray⟩)).setCell ⟨wr.heap.size,3,none⟩ (.slice aA s.args.length ac)).setCell ⟨wr.heap.size,5,none⟩ (.int .i64 (size:Int))).setCell ⟨wr.heap.size,6,none⟩ (.int .i64 tg)).alloc (.cells (pcCells ⟨s,pl,size,tg⟩ (.slice aA s.args.length ac)).toArray 46)).heap.size) (.slice aA s.args.length ac) s.args from (ArgRow.of_own ((own_set (own_set (own_set (own_set (own_set (own_set O2.out (by simp)) (by simp)) (by simp)) (by simp)) (by simp)) (by simp)).alloc _)).keep (fun _ _=>rfl) (fun g hg=>⟨Nat.le_trans (by simp) hg.1,hg.2⟩))
    have B4:=Lib.hid (B3.out.alloc B3.out.size (.cells (pcCells ⟨s,pl,size,tg⟩ (.slice aA s.args.length ac)).toArray 46))
    have C3:=Lib.hid ((Below.heap_alloc ((((((w2.setCell ⟨wr.heap.size,0,none⟩ (.string ⟨s.label.toArray⟩)).setCell ⟨wr.heap.size,1,none⟩ (.bool s.colon)).setCell ⟨wr.heap.size,2,none⟩ (.string ⟨s.op.toArray⟩)).setCell ⟨wr.heap.size,3,none⟩ (.slice aA s.args.length ac)).setCell ⟨wr.heap.size,5,none⟩ (.int .i64 (size:Int))).setCell ⟨wr.heap.size,6,none⟩ (.int .i64 tg)) (.cells (pcCells ⟨s,pl,size,tg⟩ (.slice aA s.args.length ac)).toArray 46) wr.heap.size (by rw [Z3];exact hP2)).trans (heap_set (i:=6) (.int .i64 tg) (heap_set (i:=5) (.int .i64 (size:Int)) (heap_set (i:=3) (.slice aA s.args.length ac) (heap_set (i:=2) (.string ⟨s.op.toArray⟩) (heap_set (i:=1) (.bool s.colon) (heap_set (i:=0) (.string ⟨s.label.toArray⟩) C2.out)))))))
    have hb8:w.heap.size ≤ (((((((w2.setCell ⟨wr.heap.size,0,none⟩ (.string ⟨s.label.toArray⟩)).setCell ⟨wr.heap.size,1,none⟩ (.bool s.colon)).setCell ⟨wr.heap.size,2,none⟩ (.string ⟨s.op.toArray⟩)).setCell ⟨wr.heap.size,3,none⟩ (.slice aA s.args.length ac)).setCell ⟨wr.heap.size,5,none⟩ (.int .i64 (size:Int))).setCell ⟨wr.heap.size,6,none⟩ (.int .i64 tg)).alloc (.cells (pcCells ⟨s,pl,size,tg⟩ (.slice aA s.args.length ac)).toArray 46)).heap.size:=Nat.le_trans hsz B4.out.size
    have Z4:(((((((w2.setCell ⟨wr.heap.size,0,none⟩ (.string ⟨s.label.toArray⟩)).setCell ⟨wr.heap.size,1,none⟩ (.bool s.colon)).setCell ⟨wr.heap.size,2,none⟩ (.string ⟨s.op.toArray⟩)).setCell ⟨wr.heap.size,3,none⟩ (.slice aA s.args.length ac)).setCell ⟨wr.heap.size,5,none⟩ (.int .i64 (size:Int))).setCell ⟨wr.heap.size,6,none⟩ (.int .i64 tg)).alloc (.cells (pcCells ⟨s,pl,size,tg⟩ (.slice aA s.args.length ac)).toArray 46)).heap.size=w2.heap.size + 1:=by simp
    obtain ⟨g,o,rfl,hgg,_⟩:=HRB.out.get 0 hb0
    clear B3 O2 C2
    go_wp2_with (at_builtin;go_loud (refine wpList_append_to _ rfl (.tmp 36) (.tmp 38) 42 rfl w.heap.size 46 _ 7 88 Tryz.underlying42 info_pc rfl (by omega) HO8.out rfl HN8.out rfl rfl (pcCells_one _ _ _ _) (by omega) (by omega) hb8 ?_;intro v9 w9 hown9 hbel9 hg9 hv9;obtain ⟨A9,c9,rfl,hc9,hm9,_⟩:=own_slice hown9 (by omega);have PN:=Lib.hid (PcOwn.snoc HPC.out hsz B4.out HU8.out hown9 hg9 hv9);have BB:=Lib.hid ((HBW.out.trans (B4.out.mono hsz)).trans hbel9);have C9:=Lib.hid ((hg9.block wr.heap.size (Nat.lt_of_lt_of_le hP2 (by simp)) (fun h=>by have:=hne _ h.symm;omega)).trans C3.out);have RB:=Lib.hid (HRB.out.below ((B4.out.mono hsz).trans hbel9));have y5:=cell_of_heap (i:=5) C9.out;simp at y5;clear hown9 hbel9 hg9 hv9 k0 k1 k2 k3 k4 k5 k6 f0 f1 f2 f3 f4 f5 f6 HO8 HN8 HU8 B4 C3 hb8 Z4 Z3 HRB))
    have hw1:IntKind.i64.wrap ((pl:Int) + (size:Int))=(pl:Int) + (size:Int):=IntWalk.i64_in _ (by omega)
    have RD:=Lib.hid (RdB.drop size RB.out s2)
    go_region
    all_goals (
     go_wp2_with fail
     go_roundw
     case rel=>
      have h1:=(RD.out.below ((Below.refl _ _).drew):RdB w9.drew w.heap.size _ (b.drop size))
      refine ⟨f',pl + size,b.drop size,l ++ [⟨s,pl,size,tg⟩],_,by go_num,h1,PN.out.below ((Below.refl _ _).drew),?_,?_,?_,?_,?_,BB.out.drew⟩
      ·rw [← HSW.out,HST.out,List.append_assoc];rfl
      ·rw [List.length_drop];omega
      ·rw [List.length_drop];omega
      ·rw [List.length_drop,List.length_append];simp;omega
      ·rw [List.length_drop];rfl
     case measure=>simp [lenOf];omega))
end Go.Proofs.YtagplldaooipmaaGreatDoor
/- disasm: Stmts: what can't be; the loops over pieces. -/
namespace Go.Proofs.YtagplldaooipmaaGreatDoor
open Go.RowKit
theorem PcOwn.get {w:World} {base g c n:Nat} {l:List Pc} {vs:List Value} (h:PcOwn w base (.slice (some ⟨g,0,none⟩) n c) l vs) (k:Nat) (hk:k < l.length) :
  ∀ j u,(pcCells l[k] (vs.getD k nilV))[j]? = some u → w.cell? ⟨g,k * 7 + j,none⟩=some u:=by
 intro j u hu
 obtain ⟨A,c',h1,_,_,h2⟩:=own_slice h.2.1 (by omega)
 obtain ⟨g',h3,_,_,_,h4⟩:=h2 (by omega)
 subst h3
 injection h1 with h1 _ _
 simp only [Option.some.injEq,Addr.mk.injEq,and_true] at h1
 subst h1
 exact h4 _ u (rowV_get pcCells_len l vs h.1 k hk j u hu)
def StmtsP (w:World) (l:List St) (k:Nat) (e:Ending) (w':World):Prop:=∃ v,e=.returned (.tuple #[v,.int .i64 k])∧StAt w' (fun g=>w.heap.size ≤ g∧g < w'.heap.size) v l∧Below w.heap.size w w'
set_option maxHeartbeats 2000000 in
set_option maxRecDepth 100000 in
theorem Stmts_bad (d n:Int) (b:List UInt8) (v:Value) (w:World) (hr:RdB w w.heap.size v b) (_hl:b.length ≤ 1000000) (h:d < 0 ∨ 2 < d ∨ n < 0) :
  Calls Tryz.prog 7 #[.int .i64 d,.int .i64 n,v] w (StmtsP w [] 1):=by
 obtain ⟨A,c,rfl,hc⟩:=hr.form
 by_cases h1:d < 0
 ·go_enter Tryz.func7, Tryz.ntmps7
  go_wp2_with fail
  go_ret2
  exact ⟨_,rfl,StAt.nil _ _,Below.refl _ _⟩
 by_cases h2:2 < d
 ·have e1:decide (d < 0)=false:=by simpa using h1
  go_enter Tryz.func7, Tryz.ntmps7
  go_wp2_with fail
  go_ret2
  exact ⟨_,rfl,StAt.nil _ _,Below.refl _ _⟩
 have h3:n < 0:=by omega
 have e1:decide (d < 0)=false:=by simpa using h1
 have e2:decide (2 < d)=false:=by simpa using h2
 go_enter Tryz.func7, Tryz.ntmps7
 go_wp2_with fail
 go_ret2
 exact ⟨_,rfl,StAt.nil _ _,Below.refl _ _⟩
set_option maxHeartbeats 2000000 in
set_option maxRecDepth 100000 in
theorem Stmts_over (d n:Int) (b:List UInt8) (v:Value) (w:World) (hr:RdB w w.heap.size v b) (hl:b.length ≤ 1000000) (hd1:0 ≤ d) (hd2:d ≤ 2) (hn:0 ≤ n) (h:65536 < b.length ∨ 65536 - (b.length:Int) < n) :
  Calls Tryz.prog 7 #[.int .i64 d,.int .i64 n,v] w (StmtsP w [] 7):=by
 obtain ⟨A,c,rfl,hc⟩:=hr.form
 have e1:decide (d < 0)=false:=by simp;omega
 have e2:decide (2 < d)=false:=by simp;omega
 have e3:decide (n < 0)=false:=by simp;omega
 by_cases h1:65536 < b.length
 ·have e4:(65536:Int) < (b.length:Int):=by omega
  clear h
  go_enter Tryz.func7, Tryz.ntmps7
  go_wp2_with fail
  go_ret2
  exact ⟨_,rfl,StAt.nil _ _,Below.refl _ _⟩
 ·have e4:decide ((65536:Int) < (b.length:Int))=false:=by simp;omega
  have e5:65536 - (b.length:Int) < n:=by omega
  have hw:IntKind.i64.wrap (65536 - (b.length:Int))=65536 - (b.length:Int):=IntWalk.i64_in _ (by omega)
  clear h h1
  go_enter Tryz.func7, Tryz.ntmps7
  go_wp2_with fail
  go_ret2
  exact ⟨_,rfl,StAt.nil _ _,Below.refl _ _⟩
set_option maxHeartbeats 2000000 in
set_option maxRecDepth 100000 in
theorem Stmts_none (d n:Int) (v:Value) (w:World) (hr:RdB w w.heap.size v []) (hd1:0 ≤ d) (hd2:d ≤ 2) (hn:0 ≤ n) (h:n ≤ 65536) :
  Calls Tryz.prog 7 #[.int .i64 d,.int .i64 n,v] w (StmtsP w [] 0):=by
 obtain ⟨A,c,rfl,hc⟩:=hr.form
 have e1:decide (d < 0)=false:=by simp;omega
 have e2:decide (2 < d)=false:=by simp;omega
 have e3:decide (n < 0)=false:=by simp;omega
 have e4:decide ((65536:Int) < n)=false:=by simp;omega
 go_enter Tryz.func7, Tryz.ntmps7
 go_wp2_with fail
 go_ret2
 exact ⟨_,rfl,StAt.nil _ _,Below.refl _ _⟩
end Go.Proofs.YtagplldaooipmaaGreatDoor
/- disasm: the last operand written anew; the third loop's relation. -/
namespace Go.Proofs.YtagplldaooipmaaGreatDoor
open Go.RowKit
def set8 (cur:Array Value) (k:Nat) (y:Ar):Array Value:=
 ((((((((cur.setIfInBounds k (.string ⟨y.w.toArray⟩)).setIfInBounds (k + 1) (.string ⟨y.t.toArray⟩)).setIfInBounds (k + 2) (.bool y.is)).setIfInBounds (k + 3) (.bool y.mem)).setIfInBounds (k + 4) (.string ⟨y.e.op.toArray⟩)).setIfInBounds (k + 5) (.int .u16 y.e.n)).setIfInBounds (k + 6) (.string ⟨y.e.name.toArray⟩)).setIfInBounds (k + 7) nilV)
theorem set8_size (cur:Array Value) (k:Nat) (y:Ar):(set8 cur k y).size=cur.size:=by simp [set8]
theorem set8_take (cur:Array Value) (m:Nat) (init:List Value) (x y:Ar) (hi:init.length=m) (ht:cur.toList.take (m + 8)=init ++ arCells x nilV):(set8 cur m y).toList.take (m + 8)=init ++ arCells y nilV:=by
 subst hi
 unfold set8
 simp only [Array.toList_setIfInBounds,List.take_set,ht]
 simp [arCells]
theorem ArgRow.last {w:World} {S:Nat → Prop} {v:Value} {init:List Ar} {x:Ar} (h:ArgRow w S v (init ++ [x])) :
  ∃ g c cur,v=.slice (some ⟨g,0,none⟩) (init.length + 1) c∧S g∧w.heap[g]? = some (.cells cur 41 (0,0))∧init.length + 1 ≤ c∧(∀ j u,(arCells x nilV)[j]? = some u → cur[init.length * 8 + j]? = some u) ∧
   ∀ (w':World) (y:Ar),w'.heap[g]? = some (.cells (set8 cur (init.length * 8) y) 41 (0,0)) → ArgRow w' S v (init ++ [y]):=by
 rcases h with ⟨h,_⟩ | ⟨g,c,cur,h1,h2,h3,h4,h5,h6,h7⟩
 ·simp at h
 ·rw [List.length_append,List.length_singleton] at *
  have e1:(init.length + 1) * 8=init.length * 8 + 8:=by omega
  rw [e1,rowA_snoc] at h7
  refine ⟨g,c,cur,h1,h2,h3,h4,fun j u hu=>?_,fun w' y hy=>.inr ⟨g,c,_,by rw [h1,List.length_append,List.length_singleton],h2,hy,by rw [List.length_append,List.length_singleton];exact h4,h5,by rw [set8_size,h6],?_⟩⟩
  ·have hj:j < 8:=(List.getElem?_eq_some_iff.1 hu).1
   have h8:(cur.toList.take (init.length * 8 + 8))[init.length * 8 + j]? = some u:=by
    rw [h7,List.getElem?_append_right (by rw [rowA_len];omega),rowA_len]
    simpa using hu
   rw [List.getElem?_take,if_pos (by omega)] at h8
   simpa using h8
  ·rw [List.length_append,List.length_singleton,e1,rowA_snoc]
   exact set8_take cur _ _ x y (rowA_len init) h7
def Loop3 (w w6:World) (B n:Nat) (m:List Int) (l:List Pc) (vs:List Value) (ov:Value) (k:Nat) (v:Value) (wr:World):Prop:=
 wr.ownsRow B 31 4 v (k + 1) (rowV stCells (orgS n :: (l.take k).map (finD m)) (ov :: vs.take k)) ∧
 (∀ i (hi:i < l.length),ArgRow wr (fun g=>w.heap.size ≤ g∧g < B) (vs.getD i nilV) (if i < k then (finD m l[i]).args else l[i].s.args)) ∧
 (∀ g,g < B → (∀ i,i < l.length → (vs.getD i nilV).ownBlock ≠ some g) → wr.heap[g]? = w6.heap[g]?)∧B ≤ wr.heap.size∧Below w.heap.size w wr
def Mid3 (w w6:World) (B n:Nat) (m:List Int) (l:List Pc) (vs:List Value) (ov:Value) (k:Nat) (v:Value) (P:Nat) (p:Pc) (av:Value) (wx:World):Prop:=
 wx.ownsRow B 31 4 v (k + 1) (rowV stCells (orgS n :: (l.take k).map (finD m)) (ov :: vs.take k)) ∧
 (∀ i (hi:i < l.length),ArgRow wx (fun g=>w.heap.size ≤ g∧g < B) (vs.getD i nilV) (if i < k + 1 then (finD m l[i]).args else l[i].s.args)) ∧
 (∀ g,g < B → (∀ i,i < l.length → (vs.getD i nilV).ownBlock ≠ some g) → wx.heap[g]? = w6.heap[g]?)∧B ≤ P∧P < wx.heap.size∧wx.heap[P]? = some (.cells (pcCells p av).toArray 46 (0,0))∧Below w.heap.size w wx
theorem ArgRow.set {w:World} {S:Nat → Prop} {v:Value} {l:List Ar} {b i:Nat} {u:Value} (h:ArgRow w S v l) (hb:¬ S b):ArgRow (w.setCell ⟨b,i,none⟩ u) S v l:=
 h.keep (fun g hg=>Below.heap_setCell _ _ _ g (by rintro rfl;exact hb hg)) (fun _ h=>h)
theorem ArgRow.arAt {w:World} {S:Nat → Prop} {v:Value} {l:List Ar} (h:ArgRow w S v l) (hs:∀ a ∈ l,a.e.sub = []):ArAt w S v l:=by
 rcases h with ⟨rfl,rfl⟩ | ⟨g,c,cur,rfl,h2,h3,h4,h5,h6,h7⟩
 ·exact ArAt.nil _ _
 ·refine ⟨_,c,fun _=>nilV,rfl,h4,Nat.le_trans h4 h5,fun h0=>⟨g,0,rfl,h2,fun i hi j u hu=>?_⟩,fun i hi=>?_⟩
  ·rw [Nat.zero_add,cell_of_heap h3]
   have hj:j < 8:=(List.getElem?_eq_some_iff.1 hu).1
   have h8:(rowA l)[i * 8 + j]? = some u:=by
    have:∀ (l:List Ar) (i:Nat) (hi:i < l.length),(arCells l[i] nilV)[j]? = some u → (rowA l)[i * 8 + j]? = some u:=by
     intro l
     induction l with
     | nil=>intro i hi;simp at hi
     | cons a l ih=>
      intro i hi hu
      have e:rowA (a :: l)=arCells a nilV ++ rowA l:=by simp [rowA]
      rw [e]
      cases i with
      | zero=>rw [List.getElem?_append_left (by simpa [arCells] using by omega)];simpa using hu
      | succ i=>
       rw [List.getElem?_append_right (by simp [arCells];omega)]
       have:=ih i (by simpa using hi) (by simpa using hu)
       rw [show (i + 1) * 8 + j - (arCells a nilV).length=i * 8 + j by simp [arCells];omega]
       exact this
    exact this l i hi hu
   rw [← h7,List.getElem?_take,if_pos (by omega)] at h8
   simpa using h8
  ·rw [hs _ (List.getElem_mem hi)]
   exact SubAt.nil _ _
theorem finD_sub (m:List Int) (p:Pc) (h:∀ a ∈ p.s.args,a.e.sub = []):∀ a ∈ (finD m p).args,a.e.sub = []:=by
 intro a ha
 unfold finD at ha
 simp only at ha
 split at ha
 ·rcases List.mem_append.1 ha with h1 | h1
  ·exact h a (List.dropLast_subset _ h1)
  ·simp at h1;subst h1;rfl
 ·exact h a ha
theorem stat_rows {w:World} {base B:Nat} {v:Value} {l:List St} {vs:List Value} (hB:base ≤ B) (hown:w.ownsRow B 31 4 v l.length (rowV stCells l vs)) (hlen:vs.length=l.length) (hargs:∀ i (hi:i < l.length),ArAt w (fun g=>base ≤ g∧g < w.heap.size) (vs.getD i nilV) l[i].args) :
  StAt w (fun g=>base ≤ g∧g < w.heap.size) v l:=by
 obtain ⟨A,c,rfl,hc,hm,hrow⟩:=own_slice hown (by omega)
 refine ⟨A,c,fun i=>vs.getD i nilV,rfl,hc,hm,fun h0=>?_,hargs⟩
 obtain ⟨g,rfl,g1,g2,_,g3⟩:=hrow h0
 refine ⟨g,0,rfl,⟨by omega,g2⟩,fun i hi j u hu=>?_⟩
 rw [Nat.zero_add]
 exact g3 _ _ (rowV_get stCells_len l vs hlen i hi j u hu)
theorem own_ne {w:World} {base size n b i:Nat} {e:TypeId} {v u:Value} {xs:List Value} (h:w.ownsRow base e size v n xs) (hb:v.ownBlock ≠ some b):(w.setCell ⟨b,i,none⟩ u).ownsRow base e size v n xs:=
 ⟨h.1,h.2.imp id fun ⟨g,cap,cur,h1,h2,h3,h4⟩=>⟨g,cap,cur,h1,h2,(Below.heap_setCell w ⟨b,i,none⟩ u g (by rintro rfl;exact hb (by rw [h1];rfl))).trans h3,h4⟩⟩
theorem ArgRow.ne {w:World} {S:Nat → Prop} {v:Value} {l:List Ar} {b:Nat} (h:ArgRow w S v l) (hb:v.ownBlock ≠ some b):ArgRow w (fun g=>S g∧g ≠ b) v l:=
 h.imp id fun ⟨g,c,cur,h1,h2,h3⟩=>⟨g,c,cur,h1,⟨h2,fun e=>hb (by rw [h1,e];rfl)⟩,h3⟩
end Go.Proofs.YtagplldaooipmaaGreatDoor
/- disasm: Stmts, the whole (8080). -/
namespace Go.Proofs.YtagplldaooipmaaGreatDoor
open Go.RowKit
def ButM (N M:Nat) (w w':World):Prop:=w.heap.size ≤ w'.heap.size∧∀ g,g < N → g ≠ M → w'.heap[g]? = w.heap[g]?
theorem ButM.refl (N M:Nat) (w:World):ButM N M w w:=⟨Nat.le_refl _,fun _ _ _=>rfl⟩
theorem ButM.bel {N M:Nat} {w w1 w2:World} (h:ButM N M w w1) (hb:Below w1.heap.size w1 w2) (hN:N ≤ w1.heap.size):ButM N M w w2:=
 ⟨Nat.le_trans h.1 hb.size,fun g h1 h2=>(hb.block g (by omega)).trans (h.2 g h1 h2)⟩
theorem ButM.grown {N M:Nat} {w w1 w2:World} (h:ButM N M w w1) (hg:w1.grownBy w2 (some M)) (hN:N ≤ w1.heap.size):ButM N M w w2:=
 ⟨Nat.le_trans h.1 hg.size,fun g h1 h2=>(hg.block g (by omega) (fun e=>h2 (by injection e))).trans (h.2 g h1 h2)⟩
theorem pc_cells {w2 wr:World} {base G c n:Nat} {l:List Pc} {vs:List Value} (h:PcOwn w2 base (.slice (some ⟨G,0,none⟩) n c) l vs) (k:Nat) (hk:k < l.length) (hb:wr.heap[G]? = w2.heap[G]?) :
  ∃ aA ac,vs.getD k nilV=.slice aA l[k].s.args.length ac∧l[k].s.args.length ≤ ac∧l[k].s.args.length ≤ maxLen∧wr.cell? ⟨G,k * 7,none⟩=some (.string ⟨l[k].s.label.toArray⟩)∧wr.cell? ⟨G,k * 7 + 1,none⟩=some (.bool l[k].s.colon)∧wr.cell? ⟨G,k * 7 + 2,none⟩=some (.string ⟨l[k].s.op.toArray⟩)∧wr.cell? ⟨G,k * 7 + 3,none⟩=some (.slice aA l[k].s.args.length ac)∧wr.cell? ⟨G,k * 7 + 4,none⟩=some (.int .i64 l[k].pl)∧wr.cell? ⟨G,k * 7 + 5,none⟩=some (.int .i64 l[k].size)∧wr.cell? ⟨G,k * 7 + 6,none⟩=some (.int .i64 l[k].tg):=by
 have hq:∀ j u,(pcCells l[k] (vs.getD k nilV))[j]? = some u → wr.cell? ⟨G,k * 7 + j,none⟩=some u:=fun j u hu=>(World.cell?_of_block hb).trans (h.get k hk j u hu)
 obtain ⟨aA,ac,h1,h2,h3⟩:=(h.2.2.1 k hk).form
 rw [h1] at hq
 exact ⟨aA,ac,h1,h2,h3,hq 0 _ rfl,hq 1 _ rfl,hq 2 _ rfl,hq 3 _ rfl,hq 4 _ rfl,hq 5 _ rfl,hq 6 _ rfl⟩
def Loop1 (w w2:World) (M1:Nat) (l:List Pc) (k:Nat) (wr:World):Prop:=SetAt wr M1 ((l.take k).map (·.tg))∧ButM w2.heap.size M1 w2 wr∧Below w.heap.size w wr
def Loop2 (w wo:World) (M2:Nat) (l:List Pc) (k:Nat) (wr:World):Prop:=SetAt wr M2 (marksK l k)∧ButM wo.heap.size M2 wo wr∧Below w.heap.size w wr
set_option maxHeartbeats 8000000 in
set_option maxRecDepth 100000 in
theorem Stmts_main (d:Int) (n:Nat) (b:List UInt8) (v:Value) (w:World) (hg:GWL w) (hr:RdB w w.heap.size v b) (hl:b.length ≤ 1000000) (hd1:0 ≤ d) (hd2:d ≤ 2) (h0:b ≠ []) (h1:n + b.length ≤ 65536) (l:List Pc) (hsw:sweepF (firstX d) b.length n b=l) :
  Calls Tryz.prog 7 #[.int .i64 d,.int .i64 n,v] w (StmtsP w (orgS n :: l.map (finD (marksD l))) 0):=by
 have hpos:=List.length_pos_iff.2 h0
 have e1:decide (d < 0)=false:=by simp;omega
 have e2:decide (2 < d)=false:=by simp;omega
 have e3:decide ((n:Int) < 0)=false:=by simp
 have e4:decide ((65536:Int) < (b.length:Int))=false:=by simp;omega
 have hw:IntKind.i64.wrap (65536 - (b.length:Int))=65536 - (b.length:Int):=IntWalk.i64_in _ (by omega)
 have e5:decide (65536 - (b.length:Int) < (n:Int))=false:=by simp;omega
 have e6:((b.length:Int) == 0)=false:=by rw [beq_eq_false_iff_ne];omega
 have HSW:=Lib.hid (sweep_any d n b v w hg hr (by omega))
 rw [hsw] at HSW
 have hsz:∀ pl b,b ≠ [] → 1 ≤ (firstX d pl b).2.1∧(firstX d pl b).2.1 ≤ b.length:=fun pl b hb=>⟨(firstX_size d pl b hb).1,(firstX_size d pl b hb).2.1⟩
 have HPW:=Lib.hid (sweep_pos _ (fun pl b hb=>(hsz pl b hb).1) b.length n b).2
 have HEND:=Lib.hid (sweep_end _ hsz b.length n b)
 have HTG:=Lib.hid (sweep_all (firstX d) (fun p=>-1 ≤ p.tg∧p.tg ≤ 65535) (fun pl b hb=>(firstX_size d pl b hb).2.2) b.length n b)
 have hll:=sweep_len (firstX d) b.length n b
 have HARG:=Lib.hid (sweep_all (firstX d) (fun p=>(0 ≤ p.tg → p.s.args ≠ [])∧∀ a ∈ p.s.args,a.e.sub = []) (fun pl b _=>firstX_args d pl b) b.length n b)
 rw [hsw] at HPW HEND HTG HARG hll
 obtain ⟨A,c,rfl,hc⟩:=hr.form
 have hc':=hc
 clear hr hsw hsz hd1 hd2 h0
 go_enter Tryz.func7, Tryz.ntmps7
 go_wp2_with fail
 refine (HSW.out).mono ?_
 rintro e w1 ⟨lv,vs,rfl,hpc,hb1⟩
 obtain ⟨lA,lc,rfl,hlc,hlm,hlr⟩:=own_slice hpc.2.1 (by omega)
 have HLR:Hid (0 < l.length → ∃ G,lA=some ⟨G,0,none⟩∧w.heap.size ≤ G∧G < w1.heap.size):=Lib.hid (fun h=>by obtain ⟨G,a1,a2,a3,_⟩:=hlr h;exact ⟨G,a1,a2,a3⟩)
 have hz1:=hb1.size
 have HAB:Hid (∀ i,i < l.length → ∀ g,(vs.getD i nilV).ownBlock=some g → w.heap.size ≤ g∧g < w1.heap.size∧(Value.slice lA l.length lc).ownBlock ≠ some g):=Lib.hid (fun i hi g hgg=>(hpc.2.2.1 i hi).block g hgg)
 have HAP:=Lib.hid hpc.2.2.2
 have HA1:Hid (∀ i (hi:i < l.length),ArgRow ((w1.alloc (.map #[] 0)).alloc (.map #[] 0)) (fun g=>w.heap.size ≤ g∧g < w1.heap.size) (vs.getD i nilV) l[i].s.args):=Lib.hid (fun i hi=>(hpc.2.2.1 i hi).keep (fun g hg=>(((Below.refl w1.heap.size w1).alloc (Nat.le_refl _) (.map #[] 0)).alloc (by simp) (.map #[] 0)).block g hg.2.1) (fun g hg=>⟨hg.1,hg.2.1⟩))
 have HVL:=Lib.hid hpc.1
 have P2:=Lib.hid (hpc.below (((Below.refl w1.heap.size w1).alloc (Nat.le_refl _) (.map #[] 0)).alloc (by simp) (.map #[] 0)))
 have S1:=Lib.hid ((SetAt.made w1).keep (w':=(w1.alloc (.map #[] 0)).alloc (.map #[] 0)) (Below.heap_alloc _ _ _ (by simp)))
 have S2:=Lib.hid (SetAt.made (w1.alloc (.map #[] 0)))
 have B2:=Lib.hid ((hb1.alloc hb1.size (.map #[] 0)).alloc (Nat.le_trans hb1.size (by simp)) (.map #[] 0))
 have hM:((w1.alloc (.map #[] 0)).alloc (.map #[] 0)).heap.size=w1.heap.size + 2:=by simp
 rw [show (w1.alloc (.map #[] 0)).heap.size=w1.heap.size + 1 by simp] at S2
 clear hpc hb1 HSW hlm hlr
 have hmk:=@run_makeMap Tryz.prog
 go_wp2_with fail
 clear hmk
 generalize (w1.alloc (.map #[] 0)).alloc (.map #[] 0)=w2 at *
 generalize w1.heap.size=M1 at *
 go_loopw [45] (fun i wr=>∃ k:Nat,k ≤ l.length∧i=.int .i64 k∧Loop1 w w2 M1 l k wr) (fun i _=>l.length - (intOf i).toNat)
 case atStart=>exact ⟨0,Nat.zero_le _,rfl,S1.out,ButM.refl _ _ _,B2.out⟩
 case round=>
  obtain ⟨k,hk,rfl,hS,hBM,hBW⟩:=hrel
  have HS:=Lib.hid hS
  have HBM:=Lib.hid hBM
  have HBW:=Lib.hid hBW
  have hzr:=hBM.1
  clear hS hBM hBW
  by_cases hlt:k < l.length
  ·obtain ⟨G,rfl,q1,q2⟩:=HLR.out (by omega)
   obtain ⟨aA,ac,hvk,hac,ham,c0,c1,c2,c3,c4,c5,c6⟩:=pc_cells P2.out k hlt (HBM.out.2 G (by omega) (by omega))
   have HT:=Lib.hid (HTG.out _ (List.getElem_mem hlt))
   have hrow:(l.take (k + 1)).map (·.tg)=(l.take k).map (·.tg) ++ [l[k].tg]:=by rw [List.take_succ_eq_append_getElem hlt,List.map_append];rfl
   have HROW:=Lib.hid hrow
   have hlen:((l.take k).map (·.tg)).length=k:=by simp;omega
   have HLEN:=Lib.hid hlen
   generalize (l.take k).map (·.tg)=ts at *
   clear hvk ham hrow hlen
   generalize l[k]=p at *
   obtain ⟨⟨lab,col,op,args⟩,pl,size,tg⟩:=p
   simp only at *
   obtain ⟨t1,t2⟩:=HT.out
   have hwf:=litI_wf tg (by omega) (by omega)
   have HK:=Lib.hid (Maps.keyOf_int_mk (P:=Tryz.prog) (k:=3) Tryz.underlying3 hwf)
   have hSa:=HS.out.keep (w':=wr.alloc (.cells #[.string ⟨lab.toArray⟩,.bool col,.string ⟨op.toArray⟩,.slice aA args.length ac,.int .i64 (pl:Int),.int .i64 (size:Int),.int .i64 tg] 46)) (Below.heap_alloc _ _ _ HS.out.lt)
   have HSA:=Lib.hid hSa
   have HBN:=Lib.hid (HBM.out.bel ((Below.refl wr.heap.size wr).alloc (Nat.le_refl _) (.cells #[.string ⟨lab.toArray⟩,.bool col,.string ⟨op.toArray⟩,.slice aA args.length ac,.int .i64 (pl:Int),.int .i64 (size:Int),.int .i64 tg] 46)) hzr)
   have HBX:=Lib.hid (HBW.out.alloc HBW.out.size (.cells #[.string ⟨lab.toArray⟩,.bool col,.string ⟨op.toArray⟩,.slice aA args.length ac,.int .i64 (pl:Int),.int .i64 (size:Int),.int .i64 tg] 46))
   have hzz:w2.heap.size ≤ (wr.alloc (.cells #[.string ⟨lab.toArray⟩,.bool col,.string ⟨op.toArray⟩,.slice aA args.length ac,.int .i64 (pl:Int),.int .i64 (size:Int),.int .i64 tg] 46)).heap.size:=Nat.le_trans hzr (by simp)
   clear hSa hwf HS HBM HBW
   go_wp2_with (at_mapUpdate;go_loud (refine wpList_mapUpdate_own _ rfl (.tmp 49) (.tmp 51) (.const (.bool true)) 44 rfl 3 4 int_key Tryz.underlying44 (plainElem (H:=Unit) Tryz.prog 4) M1 ts.length _ rfl HSA.out (by rw [HLEN.out];unfold maxLen;omega) (.int .i64 tg) (.bool true) (litI tg) rfl rfl HK.out (.lit (.bool true)) [] (plainElem_bool Tryz.underlying4 true) ?_;intro w4 hown4 hgr4;have S4:=Lib.hid (SetAt.put tg hown4);have BM4:=Lib.hid (HBN.out.grown hgr4 hzz);have BW4:=Lib.hid (HBX.out.grown hgr4 HBX.out.size (fun g hg=>by injection hg with hg;omega));clear hown4 hgr4))
   go_wp2_with fail
   go_roundw
   case rel=>exact ⟨k + 1,by omega,by go_num,by rw [HROW.out];exact S4.out,BM4.out,BW4.out⟩
   case measure=>simp [intOf];omega
  ·obtain rfl:k=l.length:=by omega
   have HS2:=HS.out
   rw [List.take_length] at HS2
   have HSF:=Lib.hid HS2
   have SM2:=Lib.hid (S2.out.keep (w':=wr) (HBM.out.2 _ (by omega) (by omega)))
   have HZR:=Lib.hid hzr
   clear HS HS2 S1 S2 hzr
   obtain ⟨wo,rfl⟩:∃ wo:World,wo=wr:=⟨_,rfl⟩
   have hz2:w2.heap.size ≤ wo.heap.size:=HZR.out
   clear HZR
   go_wp2_with fail
   go_loopw [55] (fun i wr=>∃ k:Nat,k ≤ l.length∧i=.int .i64 k∧Loop2 w wo (M1 + 1) l k wr) (fun i _=>l.length - (intOf i).toNat)
   case atStart=>exact ⟨0,Nat.zero_le _,rfl,by rw [marksK_zero];exact SM2.out,ButM.refl _ _ _,HBW.out⟩
   case round=>
    obtain ⟨k,hk,rfl,hS,hBM,hBW⟩:=hrel
    have KS:=Lib.hid hS
    have KBM:=Lib.hid hBM
    have KBW:=Lib.hid hBW
    have hzr:=hBM.1
    clear hS hBM hBW
    by_cases hlt:k < l.length
    ·obtain ⟨G,rfl,q1,q2⟩:=HLR.out (by omega)
     obtain ⟨aA,ac,hvk,hac,ham,c0,c1,c2,c3,c4,c5,c6⟩:=pc_cells P2.out k hlt ((KBM.out.2 G (by omega) (by omega)).trans (HBM.out.2 G (by omega) (by omega)))
     have HT:=Lib.hid (HEND.out _ (List.getElem_mem hlt))
     have HMI:=Lib.hid (marksK_in l k hlt)
     have HMO:=Lib.hid (marksK_out l k hlt)
     have HND:=Lib.hid (marksK_nodup l HPW.out k)
     have hml:=marksK_len l k
     generalize l[k]=p at *
     obtain ⟨⟨lab,col,op,args⟩,pl,size,tg⟩:=p
     simp only at *
     obtain ⟨t1,t2⟩:=HT.out
     have hwf:=litI_wf (pl:Int) (by omega) (by omega)
     have KA:=Lib.hid ((HSF.out.keep (w':=wr) (KBM.out.2 _ (by omega) (by omega))).keep (w':=wr.alloc (.cells #[.string ⟨lab.toArray⟩,.bool col,.string ⟨op.toArray⟩,.slice aA args.length ac,.int .i64 (pl:Int),.int .i64 (size:Int),.int .i64 tg] 46)) (Below.heap_alloc _ _ _ (by omega)))
     have KB:=Lib.hid (KS.out.keep (w':=wr.alloc (.cells #[.string ⟨lab.toArray⟩,.bool col,.string ⟨op.toArray⟩,.slice aA args.length ac,.int .i64 (pl:Int),.int .i64 (size:Int),.int .i64 tg] 46)) (Below.heap_alloc _ _ _ KS.out.lt))
     have HBN:=Lib.hid (KBM.out.bel ((Below.refl wr.heap.size wr).alloc (Nat.le_refl _) (.cells #[.string ⟨lab.toArray⟩,.bool col,.string ⟨op.toArray⟩,.slice aA args.length ac,.int .i64 (pl:Int),.int .i64 (size:Int),.int .i64 tg] 46)) hzr)
     have HBX:=Lib.hid (KBW.out.alloc KBW.out.size (.cells #[.string ⟨lab.toArray⟩,.bool col,.string ⟨op.toArray⟩,.slice aA args.length ac,.int .i64 (pl:Int),.int .i64 (size:Int),.int .i64 tg] 46))
     have hzz:wo.heap.size ≤ (wr.alloc (.cells #[.string ⟨lab.toArray⟩,.bool col,.string ⟨op.toArray⟩,.slice aA args.length ac,.int .i64 (pl:Int),.int .i64 (size:Int),.int .i64 tg] 46)).heap.size:=Nat.le_trans hzr (by simp)
     have HLK:=KA.out.look (pl:Int) hwf
     have HLN:=KB.out.len HND.out 3
     have HK:=Lib.hid (Maps.keyOf_int_mk (P:=Tryz.prog) (k:=3) Tryz.underlying3 hwf)
     clear hvk ham hwf HT t1 t2
     by_cases hin:(pl:Int) ∈ l.map (·.tg)
     ·rw [decide_eq_true hin] at HLK
      have HM:=Lib.hid (HMI.out hin)
      clear hin HMO HMI
      generalize hmk:marksK l (k + 1)=m' at *
      have HMK:=Lib.hid hmk
      clear hmk
      generalize marksK l k=m at *
      by_cases h1k:m.length < 1000
      ·have h1k':(m.length:Int) < 1000:=by omega
       go_wp2_with (at_mapUpdate;go_loud (refine wpList_mapUpdate_own _ rfl (.tmp 68) (.tmp 70) (.const (.bool true)) 44 rfl 3 4 int_key Tryz.underlying44 (plainElem (H:=Unit) Tryz.prog 4) (M1 + 1) m.length _ rfl KB.out (by unfold maxLen;omega) (.int .i64 (pl:Int)) (.bool true) (litI (pl:Int)) rfl rfl HK.out (.lit (.bool true)) [] (plainElem_bool Tryz.underlying4 true) ?_;intro w4 hown4 hgr4;have S4:=Lib.hid (SetAt.put (pl:Int) hown4);have BM4:=Lib.hid (HBN.out.grown hgr4 hzz);have BW4:=Lib.hid (HBX.out.grown hgr4 HBX.out.size (fun g hg=>by injection hg with hg;omega));clear hown4 hgr4))
       go_wp2_with fail
       go_roundw
       case rel=>exact ⟨k + 1,by omega,by go_num,by rw [HMK.out,HM.out,if_pos h1k];exact S4.out,BM4.out,BW4.out⟩
       case measure=>simp [intOf];omega
      ·have h1k':decide ((m.length:Int) < 1000)=false:=by simp;omega
       go_wp2_with fail
       go_roundw
       case rel=>exact ⟨k + 1,by omega,by go_num,by rw [HMK.out,HM.out,if_neg h1k];exact KB.out,HBN.out,HBX.out⟩
       case measure=>simp [intOf];omega
     ·rw [decide_eq_false hin] at HLK
      have HM:=Lib.hid (HMO.out hin)
      clear hin HMO HMI HLN
      generalize hmk:marksK l (k + 1)=m' at *
      have HMK:=Lib.hid hmk
      clear hmk
      generalize marksK l k=m at *
      go_wp2_with fail
      go_roundw
      case rel=>exact ⟨k + 1,by omega,by go_num,by rw [HMK.out,HM.out];exact KB.out,HBN.out,HBX.out⟩
      case measure=>simp [intOf];omega
    ·obtain rfl:k=l.length:=by omega
     have hfin:=KS.out
     rw [marksK_all] at hfin
     have HMS:=Lib.hid hfin
     have HBQ:=Lib.hid (show ∀ g,g < w2.heap.size → g ≠ M1 → g ≠ M1 + 1 → wr.heap[g]? = w2.heap[g]? from fun g h1 h2 h3=>(KBM.out.2 g (by omega) h3).trans (HBM.out.2 g h1 h2))
     have HZQ:=Lib.hid (Nat.le_trans hz2 hzr)
     have hnn:n ≤ 65535:=by omega
     have hw2:IntKind.u16.wrap (n:Int)=(n:Int):=IntWalk.u16_in _ (by omega)
     have HO:=Lib.hid (fun W=>doperand_num sn1 n W (by simp))
     have HS:=Lib.hid (fun g W=>dstmt_any [79,82,71] (.slice (some ⟨g,0,none⟩) 1 1) W ⟨_,_,_,rfl⟩)
     clear hfin KS HSF HBM HBW KBM HPW hz2 hzr SM2
     obtain ⟨wq,rfl⟩:∃ wq:World,wq=wr:=⟨_,rfl⟩
     clear hk
     go_wp2_with fail
     refine (HO.out _).mono ?_
     rintro e w3 ⟨rfl,hb3⟩
     have B3:=Lib.hid hb3
     have hz3:wq.heap.size ≤ w3.heap.size:=hb3.size
     have R3:=Lib.hid (rowA_new w3 (numA n))
     clear hb3 HO
     go_wp2_with fail
     refine (HS.out _ _).mono ?_
     rintro e w4 ⟨rfl,hb4⟩
     have B4:=Lib.hid (bthen B3.out (bthen ((Below.refl w3.heap.size w3).alloc (Nat.le_refl _) (.cells (arCells (numA n) nilV).toArray 41)) hb4))
     have R4:=Lib.hid (own_below R3.out hb4)
     have hz34:w3.heap.size + 1 ≤ w4.heap.size:=by have:=hb4.size;simpa using this
     clear hb4 HS B3 R3
     have HN8:=Lib.hid (rd_new w4 w4.heap.size rfl (stCells (orgS n) (.slice (some ⟨w3.heap.size,0,none⟩) 1 1)) 31)
     have hb8:w4.heap.size ≤ (w4.alloc (.cells (stCells (orgS n) (.slice (some ⟨w3.heap.size,0,none⟩) 1 1)).toArray 31)).heap.size:=by simp
     go_wp2_with (at_builtin;go_loud (refine wpList_append_to (w4.alloc (.cells (stCells (orgS n) (.slice (some ⟨w3.heap.size,0,none⟩) 1 1)).toArray 31)) rfl (.tmp 72) (.tmp 78) 24 rfl w4.heap.size 31 _ 4 64 Tryz.underlying24 info_st rfl (by omega) (World.ownsRow_nil _ _ _ _) rfl HN8.out rfl rfl (stCells_one _ _ rfl) (by omega) (by omega) hb8 ?_;intro v6 w6 hown6 hbel6 hg6 hv6;obtain ⟨A6,c6,rfl,hc6,hm6,_⟩:=own_slice hown6 (by omega);have OW6:=Lib.hid hown6;have B6:=Lib.hid (bthen B4.out (((Below.refl w4.heap.size w4).alloc (Nat.le_refl _) (.cells (stCells (orgS n) (.slice (some ⟨w3.heap.size,0,none⟩) 1 1)).toArray 31)).trans hbel6));have R6:=Lib.hid (own_below R4.out (((Below.refl w4.heap.size w4).alloc (Nat.le_refl _) (.cells (stCells (orgS n) (.slice (some ⟨w3.heap.size,0,none⟩) 1 1)).toArray 31)).trans hbel6));have Z6:=Lib.hid (Nat.le_trans hb8 hbel6.size);clear hown6 hbel6 hg6 hv6))
     have OW0:Hid (w6.ownsRow w4.heap.size 31 4 (.slice A6 1 c6) 1 (rowV stCells [orgS n] [.slice (some ⟨w3.heap.size,0,none⟩) 1 1])):=Lib.hid (by have h:=OW6.out;simpa [rowV] using h)
     have hz4:wq.heap.size ≤ w4.heap.size:=B4.out.size
     have hbz:w.heap.size ≤ wq.heap.size:=KBW.out.size
     have hzq:w2.heap.size ≤ wq.heap.size:=HZQ.out
     have HA6:Hid (∀ i (hi:i < l.length),ArgRow w6 (fun g=>w.heap.size ≤ g∧g < w4.heap.size) (vs.getD i nilV) l[i].s.args):=Lib.hid (fun i hi=>(HA1.out i hi).keep (fun g hg=>(B6.out.block g (by omega)).trans (HBQ.out g (by omega) (by omega) (by omega))) (fun g hg=>⟨hg.1,by omega⟩))
     have BW6:=Lib.hid (KBW.out.trans (B6.out.mono KBW.out.size))
     have M6:=Lib.hid (HMS.out.keep (w':=w6) (B6.out.block _ (by omega)))
     have G6:Hid (∀ g,g < M1 → w6.heap[g]? = w2.heap[g]?):=Lib.hid (fun g h=>(B6.out.block g (by omega)).trans (HBQ.out g (by omega) (by omega) (by omega)))
     have Z66:=Z6.out
     clear OW6 B6 B4 HMS HBQ KBW HZQ HN8 hb8 R4 hw2 hw
     generalize w3.heap.size=G0 at *
     go_wp2_with fail
     go_loopw [6,82] (fun v i wr=>∃ k:Nat,k ≤ l.length∧i=.int .i64 k∧Loop3 w w6 w4.heap.size n (marksD l) l vs (.slice (some ⟨G0,0,none⟩) 1 1) k v wr) (fun _ i _=>l.length - (intOf i).toNat)
     case atStart=>exact ⟨0,Nat.zero_le _,rfl,OW0.out,fun i hi=>by rw [if_neg (by omega)];exact HA6.out i hi,fun _ _ _=>rfl,Z66,BW6.out⟩
     case round=>
      obtain ⟨k,hk,rfl,hown,hargs,hfr,hBz,hBW⟩:=hrel
      obtain ⟨vA,vc,rfl,hvc,hvm,_⟩:=own_slice hown (by omega)
      have KOW:=Lib.hid hown
      have KAR:=Lib.hid hargs
      have KFR:=Lib.hid hfr
      have KBW:=Lib.hid hBW
      clear hown hargs hfr hBW hvm
      by_cases hlt:k < l.length
      ·obtain ⟨G,rfl,q1,q2⟩:=HLR.out (by omega)
       have hGn:∀ i,i < l.length → (vs.getD i nilV).ownBlock ≠ some G:=fun i hi hh=>(HAB.out i hi G hh).2.2 rfl
       obtain ⟨aA,ac,hvk,hac,ham,c0,c1,c2,c3,c4,c5,c6⟩:=pc_cells P2.out k hlt ((KFR.out G (by omega) hGn).trans (G6.out G q2))
       have KSM:=Lib.hid (M6.out.keep (w':=wr) (KFR.out (M1 + 1) (by omega) (fun i hi hh=>by have:=(HAB.out i hi _ hh).2.1;omega)))
       have HT:=Lib.hid (HEND.out _ (List.getElem_mem hlt))
       have HT2:=Lib.hid (HTG.out _ (List.getElem_mem hlt))
       have HT3:=Lib.hid (HARG.out _ (List.getElem_mem hlt))
       have HPK:=Lib.hid (show l[k]=l[k] from rfl)
       have HMP:=Lib.hid (marks_pos l)
       clear hGn
       generalize marksD l=m at *
       generalize hp:l[k]=p at HPK HT HT2 HT3 c0 c1 c2 c3 c4 c5 c6 hvk hac ham
       have HPE:=Lib.hid hp
       clear hp HPK
       obtain ⟨⟨lab,col,op,args⟩,pl,size,tg⟩:=p
       simp only at HT HT2 HT3 c0 c1 c2 c3 c4 c5 c6 hvk hac ham
       obtain ⟨t1,t2⟩:=HT.out
       obtain ⟨t3,t4⟩:=HT2.out
       have HVK:=Lib.hid hvk
       have HLK1:=(KSM.out.keep (w':=wr.alloc (.cells #[.string ⟨lab.toArray⟩,.bool col,.string ⟨op.toArray⟩,.slice aA args.length ac,.int .i64 (pl:Int),.int .i64 (size:Int),.int .i64 tg] 46)) (Below.heap_alloc _ _ _ (by omega))).look tg (litI_wf tg (by omega) (by omega))
       clear hvk HT HT2
       go_upto_if 89 with (fail)
       go_cut [] (fun wx=>Mid3 w w6 w4.heap.size n m l vs (.slice (some ⟨G0,0,none⟩) 1 1) k (.slice vA (k + 1) vc) wr.heap.size ⟨⟨lab,col,op,args⟩,pl,size,tg⟩ (.slice aA args.length ac) wx)
       case first=>
        by_cases hin:tg ∈ m
        ·have hge:0 ≤ tg:=(HMP.out tg hin).1
         obtain ⟨tn,rfl⟩:=Int.eq_ofNat_of_zero_le hge
         rw [decide_eq_true hin] at HLK1
         have hargne:=HT3.out.1 hge
         obtain ⟨init,x,rfl⟩:∃ init x,args=init ++ [x]:=⟨args.dropLast,args.getLast hargne,(List.dropLast_concat_getLast hargne).symm⟩
         have HIN:=Lib.hid hin
         have HLB:=Lib.hid (fun W=>dlabel_any tn (by omega) W)
         have har:=KAR.out k hlt
         rw [if_neg (by omega),HPE.out] at har
         obtain ⟨gA,cA,cur,hv1,⟨s1,s2⟩,hcur,hcA,hcells,hnew⟩:=har.last
         rw [HVK.out] at hv1
         simp only [List.length_append,List.length_singleton] at hac ham c3 hv1 HLK1 ⊢
         injection hv1 with hv1 _ hv2
         subst hv1 hv2
         have HCUR:=Lib.hid hcur
         have HCE:=Lib.hid hcells
         have HNW:=Lib.hid hnew
         have hlab:=Lib.hid (show labelD tn=labelD tn from rfl)
         clear hin hge hargne har hcur hcells hnew hlab
         generalize hlb:labelD tn=lb at HLB
         have HLE:=Lib.hid hlb
         clear hlb
         unfold maxLen at ham
         have hwl:IntKind.i64.wrap (init.length:Int)=(init.length:Int):=IntWalk.i64_in _ (by omega)
         have hw0:(init.length:Int) < (init.length:Int) + 1:=by omega
         go_wp2_with fail
         go_region_law (first | (go_simp;go_at_call 16;refine (HLB.out _).mono ?_;rintro e w7 ⟨rfl,hbU⟩;have q7:wr.heap.size < w7.heap.size:=(by have:=hbU.size;simp at this;omega);have hP7:=(hbU.block wr.heap.size (by simp)).trans (heap_alloc_new wr _);have hG7:=(hbU.block gA (by simp;omega)).trans ((Below.heap_alloc wr _ gA (by omega)).trans HCUR.out);have y3:=cell_of_heap (i:=3) hP7;have y6:=cell_of_heap (i:=6) hP7;have a0:=(cell_of_heap (i:=init.length * 8) hG7).trans (HCE.out 0 _ rfl);have a1:=(cell_of_heap (i:=init.length * 8 + 1) hG7).trans (HCE.out 1 _ rfl);have a2:=(cell_of_heap (i:=init.length * 8 + 2) hG7).trans (HCE.out 2 _ rfl);have a3:=(cell_of_heap (i:=init.length * 8 + 3) hG7).trans (HCE.out 3 _ rfl);have a4:=(cell_of_heap (i:=init.length * 8 + 4) hG7).trans (HCE.out 4 _ rfl);have a5:=(cell_of_heap (i:=init.length * 8 + 5) hG7).trans (HCE.out 5 _ rfl);have a6:=(cell_of_heap (i:=init.length * 8 + 6) hG7).trans (HCE.out 6 _ rfl);have a7:=(cell_of_heap (i:=init.length * 8 + 7) hG7).trans (HCE.out 7 _ rfl);have f0:=frozen_of_heap (i:=init.length * 8) hG7;have f1:=frozen_of_heap (i:=init.length * 8 + 1) hG7;have f2:=frozen_of_heap (i:=init.length * 8 + 2) hG7;have f3:=frozen_of_heap (i:=init.length * 8 + 3) hG7;have f4:=frozen_of_heap (i:=init.length * 8 + 4) hG7;have f5:=frozen_of_heap (i:=init.length * 8 + 5) hG7;have f6:=frozen_of_heap (i:=init.length * 8 + 6) hG7;have f7:=frozen_of_heap (i:=init.length * 8 + 7) hG7;simp at y3 y6 f0 f1 f2 f3 f4 f5 f6 f7))
         all_goals (
          have HW:Hid (∀ g,g < (wr.alloc (.cells #[.string ⟨lab.toArray⟩,.bool col,.string ⟨op.toArray⟩,.slice (some ⟨gA,0,none⟩) (init.length + 1) ac,.int .i64 (pl:Int),.int .i64 (size:Int),.int .i64 (tn:Int)] 46)).heap.size → g ≠ gA → ((((((((w7.setCell ⟨gA,init.length * 8,none⟩ (.string ⟨#[]⟩)).setCell ⟨gA,init.length * 8 + 1,none⟩ (.string ⟨#[]⟩)).setCell ⟨gA,init.length * 8 + 2,none⟩ (.bool false)).setCell ⟨gA,init.length * 8 + 3,none⟩ (.bool false)).setCell ⟨gA,init.length * 8 + 4,none⟩ (.string ⟨#[110]⟩)).setCell ⟨gA,init.length * 8 + 5,none⟩ (.int .u16 0)).setCell ⟨gA,init.length * 8 + 6,none⟩ (.string ⟨lb.toArray⟩)).setCell ⟨gA,init.length * 8 + 7,none⟩ (.slice none 0 0)).heap[g]? = (wr.alloc (.cells #[.string ⟨lab.toArray⟩,.bool col,.string ⟨op.toArray⟩,.slice (some ⟨gA,0,none⟩) (init.length + 1) ac,.int .i64 (pl:Int),.int .i64 (size:Int),.int .i64 (tn:Int)] 46)).heap[g]?):=Lib.hid (fun g h1 h2=>by
           rw [Below.heap_setCell _ _ _ g h2,Below.heap_setCell _ _ _ g h2,Below.heap_setCell _ _ _ g h2,Below.heap_setCell _ _ _ g h2,Below.heap_setCell _ _ _ g h2,Below.heap_setCell _ _ _ g h2,Below.heap_setCell _ _ _ g h2,Below.heap_setCell _ _ _ g h2]
           exact hbU.block g h1)
          have HGW:=Lib.hid (show ((((((((w7.setCell ⟨gA,init.length * 8,none⟩ (.string ⟨#[]⟩)).setCell ⟨gA,init.length * 8 + 1,none⟩ (.string ⟨#[]⟩)).setCell ⟨gA,init.length * 8 + 2,none⟩ (.bool false)).setCell ⟨gA,init.length * 8 + 3,none⟩ (.bool false)).setCell ⟨gA,init.length * 8 + 4,none⟩ (.string ⟨#[110]⟩)).setCell ⟨gA,init.length * 8 + 5,none⟩ (.int .u16 0)).setCell ⟨gA,init.length * 8 + 6,none⟩ (.string ⟨lb.toArray⟩)).setCell ⟨gA,init.length * 8 + 7,none⟩ (.slice none 0 0)).heap[gA]? = some (.cells (set8 cur (init.length * 8) (nameA lb)) 41 (0,0)) from (heap_set (i:=init.length * 8 + 7) (.slice none 0 0) (heap_set (i:=init.length * 8 + 6) (.string ⟨lb.toArray⟩) (heap_set (i:=init.length * 8 + 5) (.int .u16 0) (heap_set (i:=init.length * 8 + 4) (.string ⟨#[110]⟩) (heap_set (i:=init.length * 8 + 3) (.bool false) (heap_set (i:=init.length * 8 + 2) (.bool false) (heap_set (i:=init.length * 8 + 1) (.string ⟨#[]⟩) (heap_set (i:=init.length * 8) (.string ⟨#[]⟩) hG7)))))))))
          have HOW:=Lib.hid (show ((((((((w7.setCell ⟨gA,init.length * 8,none⟩ (.string ⟨#[]⟩)).setCell ⟨gA,init.length * 8 + 1,none⟩ (.string ⟨#[]⟩)).setCell ⟨gA,init.length * 8 + 2,none⟩ (.bool false)).setCell ⟨gA,init.length * 8 + 3,none⟩ (.bool false)).setCell ⟨gA,init.length * 8 + 4,none⟩ (.string ⟨#[110]⟩)).setCell ⟨gA,init.length * 8 + 5,none⟩ (.int .u16 0)).setCell ⟨gA,init.length * 8 + 6,none⟩ (.string ⟨lb.toArray⟩)).setCell ⟨gA,init.length * 8 + 7,none⟩ (.slice none 0 0)).ownsRow w4.heap.size 31 4 (.slice vA (k + 1) vc) (k + 1) _ from (own_set (own_set (own_set (own_set (own_set (own_set (own_set (own_set (own_below (KOW.out.alloc (.cells #[.string ⟨lab.toArray⟩,.bool col,.string ⟨op.toArray⟩,.slice (some ⟨gA,0,none⟩) (init.length + 1) ac,.int .i64 (pl:Int),.int .i64 (size:Int),.int .i64 (tn:Int)] 46)).drew hbU) s2) s2) s2) s2) s2) s2) s2) s2))
          have HBL:=Lib.hid (show Below w.heap.size w ((((((((w7.setCell ⟨gA,init.length * 8,none⟩ (.string ⟨#[]⟩)).setCell ⟨gA,init.length * 8 + 1,none⟩ (.string ⟨#[]⟩)).setCell ⟨gA,init.length * 8 + 2,none⟩ (.bool false)).setCell ⟨gA,init.length * 8 + 3,none⟩ (.bool false)).setCell ⟨gA,init.length * 8 + 4,none⟩ (.string ⟨#[110]⟩)).setCell ⟨gA,init.length * 8 + 5,none⟩ (.int .u16 0)).setCell ⟨gA,init.length * 8 + 6,none⟩ (.string ⟨lb.toArray⟩)).setCell ⟨gA,init.length * 8 + 7,none⟩ (.slice none 0 0)) from ((((((((((KBW.out.alloc KBW.out.size (.cells #[.string ⟨lab.toArray⟩,.bool col,.string ⟨op.toArray⟩,.slice (some ⟨gA,0,none⟩) (init.length + 1) ac,.int .i64 (pl:Int),.int .i64 (size:Int),.int .i64 (tn:Int)] 46)).drew.trans (hbU.mono (by have:=KBW.out.size;simp;omega))).setCell s1 _).setCell s1 _).setCell s1 _).setCell s1 _).setCell s1 _).setCell s1 _).setCell s1 _).setCell s1 _))
          have HSZ:=Lib.hid (show wr.heap.size < ((((((((w7.setCell ⟨gA,init.length * 8,none⟩ (.string ⟨#[]⟩)).setCell ⟨gA,init.length * 8 + 1,none⟩ (.string ⟨#[]⟩)).setCell ⟨gA,init.length * 8 + 2,none⟩ (.bool false)).setCell ⟨gA,init.length * 8 + 3,none⟩ (.bool false)).setCell ⟨gA,init.length * 8 + 4,none⟩ (.string ⟨#[110]⟩)).setCell ⟨gA,init.length * 8 + 5,none⟩ (.int .u16 0)).setCell ⟨gA,init.length * 8 + 6,none⟩ (.string ⟨lb.toArray⟩)).setCell ⟨gA,init.length * 8 + 7,none⟩ (.slice none 0 0)).heap.size by simp;exact q7)
          clear a0 a1 a2 a3 a4 a5 a6 a7 f0 f1 f2 f3 f4 f5 f6 f7 y3 y6 hP7 hG7 hbU q7 hwl hw0
          go_wp2_with fail
          go_meet
          have hze:(wr.alloc (.cells #[.string ⟨lab.toArray⟩,.bool col,.string ⟨op.toArray⟩,.slice (some ⟨gA,0,none⟩) (init.length + 1) ac,.int .i64 (pl:Int),.int .i64 (size:Int),.int .i64 (tn:Int)] 46)).heap.size=wr.heap.size + 1:=by simp
          refine ⟨HOW.out,fun i hi=>?_,fun g hg1 hg2=>?_,hBz,HSZ.out,?_,HBL.out⟩
          ·by_cases hik:i=k
           ·subst hik
            rw [if_pos (by omega),HPE.out]
            unfold finD
            simp only [if_pos HIN.out,List.dropLast_concat,Int.toNat_natCast,HLE.out]
            exact HNW.out _ (nameA lb) HGW.out
           ·have hne:(vs.getD i nilV).ownBlock ≠ some gA:=fun hh=>by
             have hkb:(vs.getD k nilV).ownBlock=some gA:=by rw [HVK.out];rfl
             rcases Nat.lt_or_gt_of_ne hik with h | h
             ·exact HAP.out i k gA h (by rw [HVL.out];exact hlt) hh hkb
             ·exact HAP.out k i gA h (by rw [HVL.out];exact hi) hkb hh
            have h1:=((KAR.out i hi).ne hne).keep (w':=((((((((w7.setCell ⟨gA,init.length * 8,none⟩ (.string ⟨#[]⟩)).setCell ⟨gA,init.length * 8 + 1,none⟩ (.string ⟨#[]⟩)).setCell ⟨gA,init.length * 8 + 2,none⟩ (.bool false)).setCell ⟨gA,init.length * 8 + 3,none⟩ (.bool false)).setCell ⟨gA,init.length * 8 + 4,none⟩ (.string ⟨#[110]⟩)).setCell ⟨gA,init.length * 8 + 5,none⟩ (.int .u16 0)).setCell ⟨gA,init.length * 8 + 6,none⟩ (.string ⟨lb.toArray⟩)).setCell ⟨gA,init.length * 8 + 7,none⟩ (.slice none 0 0))) (S':=fun g=>w.heap.size ≤ g∧g < w4.heap.size) (fun g hg=>(HW.out g (by omega) hg.2).trans (Below.heap_alloc _ _ _ (by omega))) (fun g hg=>hg.1)
            by_cases hik2:i < k
            ·rw [if_pos hik2] at h1;rw [if_pos (by omega)];exact h1
            ·rw [if_neg hik2] at h1;rw [if_neg (by omega)];exact h1
          ·have hgne:g ≠ gA:=fun e=>hg2 k hlt (by rw [HVK.out,e];rfl)
           exact (HW.out g (by omega) hgne).trans ((Below.heap_alloc _ _ _ (by omega)).trans (KFR.out g hg1 hg2))
          ·rw [List.length_append,List.length_singleton]
           exact (HW.out wr.heap.size (by omega) (by omega)).trans (heap_alloc_new wr _))
        ·rw [decide_eq_false hin] at HLK1
         have HIN:=Lib.hid hin
         clear hin
         go_wp2_with fail
         go_meet
         refine ⟨KOW.out.alloc _,fun i hi=>?_,fun g hg1 hg2=>(Below.heap_alloc _ _ _ (by omega)).trans (KFR.out g hg1 hg2),hBz,by simp,heap_alloc_new wr _,KBW.out.alloc KBW.out.size _⟩
         have h1:=(KAR.out i hi).keep (w':=wr.alloc (.cells #[.string ⟨lab.toArray⟩,.bool col,.string ⟨op.toArray⟩,.slice aA args.length ac,.int .i64 (pl:Int),.int .i64 (size:Int),.int .i64 tg] 46)) (fun g hg=>Below.heap_alloc _ _ _ (by omega)) (fun g hg=>hg)
         by_cases hik:i=k
         ·subst hik
          rw [if_neg (by omega)] at h1
          rw [if_pos (by omega),HPE.out]
          rw [HPE.out] at h1
          unfold finD
          simp only [if_neg HIN.out]
          exact h1
         ·by_cases hik2:i < k
          ·rw [if_pos hik2] at h1;rw [if_pos (by omega)];exact h1
          ·rw [if_neg hik2] at h1;rw [if_neg (by omega)];exact h1
       case rest=>
        obtain ⟨hown,hargs,hfr,hBP,hPz,hbox,hBW⟩:=hcut
        obtain ⟨wx,rfl⟩:∃ x:World,x=wc:=⟨_,rfl⟩
        have HNE:=Lib.hid (show (Value.slice vA (k + 1) vc).ownBlock ≠ some wr.heap.size from fun h=>by have:=(KOW.out.lt _ h).2;omega)
        have hBw:w.heap.size ≤ w4.heap.size:=by have:=(HAB.out);have:=KBW.out.size;omega
        have MSM:=Lib.hid (M6.out.keep (w':=wx) (hfr (M1 + 1) (by omega) (fun i hi hh=>by have:=(HAB.out i hi _ hh).2.1;omega)))
        have MOW:=Lib.hid hown
        have MAR:=Lib.hid hargs
        have MFR:=Lib.hid hfr
        have HQX:=Lib.hid hbox
        have MBW:=Lib.hid hBW
        have HLK2:=MSM.out.look (pl:Int) (litI_wf (pl:Int) (by omega) (by omega))
        clear hown hargs hfr hBW HLK1 KOW KAR KFR KBW KSM c0 c1 c2 c3 c4 c5 c6
        generalize wr.heap.size=P at *
        have k0:=cell_of_heap (i:=0) hbox
        have k1:=cell_of_heap (i:=1) hbox
        have k2:=cell_of_heap (i:=2) hbox
        have k3:=cell_of_heap (i:=3) hbox
        have k4:=cell_of_heap (i:=4) hbox
        have k5:=cell_of_heap (i:=5) hbox
        have k6:=cell_of_heap (i:=6) hbox
        have g0:=frozen_of_heap (i:=0) hbox
        have g1:=frozen_of_heap (i:=1) hbox
        simp [pcCells] at k0 k1 k2 k3 k4 k5 k6 g0 g1
        clear hbox
        by_cases hin2:(pl:Int) ∈ m
        ·rw [decide_eq_true hin2] at HLK2
         have HI2:=Lib.hid hin2
         clear hin2
         have HLB2:=Lib.hid (fun W=>dlabel_any pl (by omega) W)
         generalize hlb:labelD pl=lb2 at HLB2
         have HLE2:=Lib.hid hlb
         clear hlb
         go_wp2_with fail
         refine (HLB2.out _).mono ?_
         rintro e w8 ⟨rfl,hb8⟩
         have C8:=Lib.hid ((hb8.block P hPz).trans HQX.out)
         have B8:=Lib.hid hb8
         have hP8:P < w8.heap.size:=Nat.lt_of_lt_of_le hPz hb8.size
         clear hb8 HLB2 k0 k1 k2 k3 k4 k5 k6 g0 g1
         have k0:=cell_of_heap (i:=0) C8.out
         have k1:=cell_of_heap (i:=1) C8.out
         have k2:=cell_of_heap (i:=2) C8.out
         have k3:=cell_of_heap (i:=3) C8.out
         have g0:=frozen_of_heap (i:=0) C8.out
         have g1:=frozen_of_heap (i:=1) C8.out
         simp [pcCells] at k0 k1 k2 k3 g0 g1
         have OW8:=Lib.hid (show ((w8.setCell ⟨P,0,none⟩ (.string ⟨lb2.toArray⟩)).setCell ⟨P,1,none⟩ (.bool true)).ownsRow w4.heap.size 31 4 (.slice vA (k + 1) vc) (k + 1) _ from (own_ne (own_ne (own_below MOW.out B8.out) HNE.out) HNE.out))
         have BW8:=Lib.hid (show Below w.heap.size w ((w8.setCell ⟨P,0,none⟩ (.string ⟨lb2.toArray⟩)).setCell ⟨P,1,none⟩ (.bool true)) from (((MBW.out.trans (B8.out.mono MBW.out.size)).setCell (p:=⟨P,0,none⟩) (Nat.le_trans hBw hBP) _).setCell (p:=⟨P,1,none⟩) (Nat.le_trans hBw hBP) _))
         have FR8:Hid (∀ g,g < w4.heap.size → ((w8.setCell ⟨P,0,none⟩ (.string ⟨lb2.toArray⟩)).setCell ⟨P,1,none⟩ (.bool true)).heap[g]? = wx.heap[g]?):=Lib.hid (fun g hg=>(Below.heap_setCell _ _ _ g (by simp;omega)).trans ((Below.heap_setCell _ _ _ g (by simp;omega)).trans (B8.out.block g (by omega))))
         have HN8:=Lib.hid (rd_new ((w8.setCell ⟨P,0,none⟩ (.string ⟨lb2.toArray⟩)).setCell ⟨P,1,none⟩ (.bool true)) w8.heap.size (by simp) (stCells ⟨lb2,true,op,if tg ∈ m then args.dropLast ++ [nameA (labelD tg.toNat)] else args⟩ (.slice aA args.length ac)) 31)
         have hb8:w4.heap.size ≤ (((w8.setCell ⟨P,0,none⟩ (.string ⟨lb2.toArray⟩)).setCell ⟨P,1,none⟩ (.bool true)).alloc (.cells (stCells ⟨lb2,true,op,if tg ∈ m then args.dropLast ++ [nameA (labelD tg.toNat)] else args⟩ (.slice aA args.length ac)).toArray 31)).heap.size:=(by simp;omega)
         clear C8 B8 MOW MBW
         go_wp2_with (at_builtin;go_loud (refine wpList_append_to (((w8.setCell ⟨P,0,none⟩ (.string ⟨lb2.toArray⟩)).setCell ⟨P,1,none⟩ (.bool true)).alloc (.cells (stCells ⟨lb2,true,op,if tg ∈ m then args.dropLast ++ [nameA (labelD tg.toNat)] else args⟩ (.slice aA args.length ac)).toArray 31)) rfl (.tmp 115) (.tmp 118) 24 rfl w4.heap.size 31 _ 4 64 Tryz.underlying24 info_st rfl (by omega) (OW8.out.alloc _) rfl HN8.out rfl rfl (stCells_one _ _ rfl) (by omega) (by omega) hb8 ?_;intro v9 w9 hown9 hbel9 hg9 hv9;obtain ⟨A9,c9,rfl,hc9,hm9,_⟩:=own_slice hown9 (by omega);have O9:=Lib.hid hown9;have B9:=Lib.hid ((BW8.out.alloc BW8.out.size (.cells (stCells ⟨lb2,true,op,if tg ∈ m then args.dropLast ++ [nameA (labelD tg.toNat)] else args⟩ (.slice aA args.length ac)).toArray 31)).trans (hbel9.mono hBw));have F9:Hid (∀ g,g < w4.heap.size → w9.heap[g]? = wx.heap[g]?):=Lib.hid (fun g hg=>(hbel9.block g hg).trans ((Below.heap_alloc _ _ _ (by simp;omega)).trans (FR8.out g hg)));have Z9:=Lib.hid (Nat.le_trans hb8 hbel9.size);clear hown9 hbel9 hg9 hv9 OW8 BW8 FR8 HN8 hb8))
         go_wp2_with fail
         go_roundw
         case rel=>
          refine ⟨k + 1,by omega,by go_num,?_,fun i hi=>(MAR.out i hi).keep (fun g hg=>F9.out g hg.2) (fun g hg=>hg),fun g h1 h2=>(F9.out g h1).trans (MFR.out g h1 h2),Z9.out,B9.out⟩
          have h:=O9.out
          have e1:(orgS n :: (l.take (k + 1)).map (finD m))=(orgS n :: (l.take k).map (finD m)) ++ [finD m l[k]]:=by rw [List.take_succ_eq_append_getElem hlt,List.map_append];rfl
          have e2:(Value.slice (some ⟨G0,0,none⟩) 1 1 :: vs.take (k + 1))=(Value.slice (some ⟨G0,0,none⟩) 1 1 :: vs.take k) ++ [.slice aA args.length ac]:=by
           have hkv:k < vs.length:=by rw [HVL.out];exact hlt
           rw [List.take_succ_eq_append_getElem hkv]
           have:=HVK.out
           rw [List.getD_eq_getElem?_getD,List.getElem?_eq_getElem hkv] at this
           simp only [Option.getD_some] at this
           rw [this];rfl
          have e3:finD m l[k]=⟨lb2,true,op,if tg ∈ m then args.dropLast ++ [nameA (labelD tg.toNat)] else args⟩:=by
           rw [HPE.out];unfold finD;simp only [if_pos HI2.out,HLE2.out]
          rw [e1,e2,e3,rowV_snoc _ _ _ _ (by simp [HVL.out])]
          exact h
         case measure=>simp [intOf];omega
        ·rw [decide_eq_false hin2] at HLK2
         have HI2:=Lib.hid hin2
         clear hin2
         have OW8:=Lib.hid (show wx.ownsRow w4.heap.size 31 4 (.slice vA (k + 1) vc) (k + 1) _ from MOW.out)
         have BW8:=Lib.hid (show Below w.heap.size w wx from MBW.out)
         have FR8:Hid (∀ g,g < w4.heap.size → wx.heap[g]? = wx.heap[g]?):=Lib.hid (fun g hg=>rfl)
         have HN8:=Lib.hid (rd_new wx wx.heap.size (rfl) (stCells ⟨lab,col,op,if tg ∈ m then args.dropLast ++ [nameA (labelD tg.toNat)] else args⟩ (.slice aA args.length ac)) 31)
         have hb8:w4.heap.size ≤ (wx.alloc (.cells (stCells ⟨lab,col,op,if tg ∈ m then args.dropLast ++ [nameA (labelD tg.toNat)] else args⟩ (.slice aA args.length ac)).toArray 31)).heap.size:=(by simp;omega)
         clear  MOW MBW
         go_wp2_with (at_builtin;go_loud (refine wpList_append_to (wx.alloc (.cells (stCells ⟨lab,col,op,if tg ∈ m then args.dropLast ++ [nameA (labelD tg.toNat)] else args⟩ (.slice aA args.length ac)).toArray 31)) rfl (.tmp 115) (.tmp 118) 24 rfl w4.heap.size 31 _ 4 64 Tryz.underlying24 info_st rfl (by omega) (OW8.out.alloc _) rfl HN8.out rfl rfl (stCells_one _ _ rfl) (by omega) (by omega) hb8 ?_;intro v9 w9 hown9 hbel9 hg9 hv9;obtain ⟨A9,c9,rfl,hc9,hm9,_⟩:=own_slice hown9 (by omega);have O9:=Lib.hid hown9;have B9:=Lib.hid ((BW8.out.alloc BW8.out.size (.cells (stCells ⟨lab,col,op,if tg ∈ m then args.dropLast ++ [nameA (labelD tg.toNat)] else args⟩ (.slice aA args.length ac)).toArray 31)).trans (hbel9.mono hBw));have F9:Hid (∀ g,g < w4.heap.size → w9.heap[g]? = wx.heap[g]?):=Lib.hid (fun g hg=>(hbel9.block g hg).trans ((Below.heap_alloc _ _ _ (by omega)).trans (FR8.out g hg)));have Z9:=Lib.hid (Nat.le_trans hb8 hbel9.size);clear hown9 hbel9 hg9 hv9 OW8 BW8 FR8 HN8 hb8))
         go_wp2_with fail
         go_roundw
         case rel=>
          refine ⟨k + 1,by omega,by go_num,?_,fun i hi=>(MAR.out i hi).keep (fun g hg=>F9.out g hg.2) (fun g hg=>hg),fun g h1 h2=>(F9.out g h1).trans (MFR.out g h1 h2),Z9.out,B9.out⟩
          have h:=O9.out
          have e1:(orgS n :: (l.take (k + 1)).map (finD m))=(orgS n :: (l.take k).map (finD m)) ++ [finD m l[k]]:=by rw [List.take_succ_eq_append_getElem hlt,List.map_append];rfl
          have e2:(Value.slice (some ⟨G0,0,none⟩) 1 1 :: vs.take (k + 1))=(Value.slice (some ⟨G0,0,none⟩) 1 1 :: vs.take k) ++ [.slice aA args.length ac]:=by
           have hkv:k < vs.length:=by rw [HVL.out];exact hlt
           rw [List.take_succ_eq_append_getElem hkv]
           have:=HVK.out
           rw [List.getD_eq_getElem?_getD,List.getElem?_eq_getElem hkv] at this
           simp only [Option.getD_some] at this
           rw [this];rfl
          have e3:finD m l[k]=⟨lab,col,op,if tg ∈ m then args.dropLast ++ [nameA (labelD tg.toNat)] else args⟩:=by
           rw [HPE.out];unfold finD;simp only [if_neg HI2.out]
          rw [e1,e2,e3,rowV_snoc _ _ _ _ (by simp [HVL.out])]
          exact h
         case measure=>simp [intOf];omega
      ·obtain rfl:k=l.length:=by omega
       have hown:=KOW.out
       rw [List.take_length,← HVL.out,List.take_length] at hown
       have HOWN:=Lib.hid hown
       have RO:Hid (ArgRow wr (fun g=>w.heap.size ≤ g∧g < w4.heap.size) (.slice (some ⟨G0,0,none⟩) 1 1) [numA n]):=Lib.hid (by
        rcases R6.out.2 with ⟨h,_⟩ | ⟨g,cap,cur,h1,h2,h3,h4⟩
        ·cases h
        ·injection h1 with h1 _ h1c
         injection h1 with h1
         injection h1 with h1 _ _
         subst h1 h1c
         have:=KBW.out.size
         exact .inr ⟨G0,1,cur,rfl,⟨by omega,by omega⟩,(KFR.out G0 (by omega) (fun i hi hh=>by have:=(HAB.out i hi _ hh).2.1;omega)).trans h3,h4⟩)
       have HFIN:Hid (StAt wr (fun g=>w.heap.size ≤ g∧g < wr.heap.size) (.slice vA (vs.length + 1) vc) (orgS n :: l.map (finD (marksD l)))):=Lib.hid (by
        refine stat_rows (B:=w4.heap.size) (vs:=.slice (some ⟨G0,0,none⟩) 1 1 :: vs) (by omega) (by simpa [HVL.out] using HOWN.out) (by simp [HVL.out]) (fun i hi=>?_)
        cases i with
        | zero=>exact (RO.out.arAt (fun a ha=>by simp at ha;subst ha;rfl)).keep (fun _ _=>rfl) (fun g hg=>⟨hg.1,by omega⟩)
        | succ i=>
         simp only [List.length_cons,List.length_map] at hi
         have hi':i < l.length:=by omega
         have h1:=KAR.out i hi'
         rw [if_pos hi'] at h1
         simp only [List.getElem_cons_succ,List.getElem_map,List.getD_cons_succ]
         exact (h1.arAt (finD_sub _ _ (HARG.out _ (List.getElem_mem hi')).2)).keep (fun _ _=>rfl) (fun g hg=>⟨hg.1,by omega⟩))
       have BWF:=Lib.hid KBW.out
       rw [HVL.out] at HFIN
       clear hown HOWN RO KOW KAR KFR KBW
       go_wp2_with fail
       go_ret2
       exact ⟨_,rfl,HFIN.out,BWF.out⟩
end Go.Proofs.YtagplldaooipmaaGreatDoor
/- disasm: Stmts and Text of the 8080's and Zilog's dialect. -/
namespace Go.Proofs.YtagplldaooipmaaGreatDoor
open Go.RowKit
theorem Stmts_any (d n:Int) (b:List UInt8) (v:Value) (w:World) (hg:GWL w) (hr:RdB w w.heap.size v b) (hl:b.length ≤ 1000000) :
  Calls Tryz.prog 7 #[.int .i64 d,.int .i64 n,v] w (StmtsP w (stmtsD first86D d n b).1 (stmtsD first86D d n b).2):=by
 unfold stmtsD
 by_cases h1:d < 0 ∨ 2 < d ∨ n < 0
 ·rw [if_pos h1]
  exact Stmts_bad d n b v w hr hl h1
 ·rw [if_neg h1]
  by_cases h2:65536 < b.length ∨ 65536 - (b.length:Int) < n
  ·rw [if_pos h2]
   exact Stmts_over d n b v w hr hl (by omega) (by omega) (by omega) h2
  ·rw [if_neg h2]
   by_cases h3:b = []
   ·rw [if_pos h3]
    subst h3
    exact Stmts_none d n v w hr (by omega) (by omega) (by omega) (by simp at h2;omega)
   ·rw [if_neg h3]
    obtain ⟨m,rfl⟩:∃ m:Nat,n=m:=⟨n.toNat,by omega⟩
    exact Stmts_main d m b v w hg hr hl (by omega) (by omega) h3 (by omega) _ rfl
theorem numA_fit (n:Nat) (h:n ≤ 65535):fitA (numA n):=⟨by simp [numA],by simp [numA],by simp [numA,numE,fitE,fitL];omega⟩
theorem operandD_fit (s:List UInt8) (n:Nat) (hs:s.length ≤ 1000) (h:n ≤ 65535):fitA (operandD s n):=by
 unfold operandD
 split
 ·exact numA_fit n h
 ·split
  ·exact numA_fit n h
  ·exact ⟨hs,by simp [wordA],by simp [wordA,ex0,fitE,fitL]⟩
theorem names_fit:∀ k:Fin 256,(name80 k.val).length ≤ 1000∧(zname k.val).length ≤ 1000∧(∀ a ∈ args80 k.val,a.length ≤ 1000)∧(∀ a ∈ zargs k.val,a.length ≤ 1000):=by decide +kernel
theorem st80_fit (d:Int) (op n:Nat) (ho:op < 256) (hn:n ≤ 65535):fitS (st80 d op n):=by
 obtain ⟨h1,h2,h3,h4⟩:=names_fit ⟨op,ho⟩
 simp only at h1 h2 h3 h4
 have hnm:(nm80 d op).length ≤ 1000:=by unfold nm80;split <;> assumption
 have har:∀ a ∈ ar80 d op,a.length ≤ 1000:=by unfold ar80;split <;> assumption
 unfold st80
 split
 ·refine ⟨by simp,hnm,fun a ha=>?_⟩
  obtain rfl:=List.mem_singleton.1 ha
  exact numA_fit _ (by unfold rst80;split <;> omega)
 ·refine ⟨by simp,hnm,fun a ha=>?_⟩
  obtain ⟨x,hx,rfl⟩:=List.mem_map.1 ha
  exact operandD_fit x n (har x hx) hn
theorem first80_fit (d:Int) (b:List UInt8):fitS (first80D d b).1:=by
 have hb:=byteN_lt b
 unfold first80D
 split
 ·refine ⟨by simp [dbD],by simp [dbD],fun a ha=>?_⟩
  obtain rfl:=List.mem_singleton.1 ha
  exact numA_fit _ (by have:=hb 0;omega)
 ·have h0:=hb 0
  have h1:=hb 1
  have h2:=hb 2
  refine st80_fit d _ _ ?_ ?_
  ·unfold read80
   split
   ·simp
   ·split
    ·simp
    ·split
     ·simp
     ·exact h0
  ·unfold read80
   split
   ·simp
   ·split
    ·simp
    ·split
     ·simp
     ·simp only
      unfold n80
      split
      ·omega
      ·split <;> omega
theorem names86_fit:∀ k:Fin 52,(nameL k.val).length ≤ 1000:=by decide +kernel
theorem args86_fit:∀ k:Fin 21,(argL k.val).length ≤ 1000:=by decide +kernel
theorem arg86_fit (c n:Nat) (hc:c ≤ 20) (hn:n ≤ 65535):∀ a ∈ arg86D c n,fitA a:=by
 intro a ha
 unfold arg86D at ha
 split at ha
 ·simp at ha
 ·split at ha
  ·obtain rfl:=List.mem_singleton.1 ha
   exact ⟨by simp [memA],by simp [memA],by simp [memA,numE,fitE,fitL];omega⟩
  ·split at ha
   ·obtain rfl:=List.mem_singleton.1 ha;exact numA_fit n hn
   ·obtain rfl:=List.mem_singleton.1 ha;exact operandD_fit _ 0 (args86_fit ⟨c,by omega⟩) (by omega)
theorem first86_fit (pl:Nat) (b:List UInt8):fitS (first86D pl b).1:=by
 unfold first86D
 by_cases h:(read86 b).2.2 ≠ 0
 ·rw [if_pos h]
  refine ⟨by simp [dbD],by simp [dbD],fun a ha=>?_⟩
  obtain rfl:=List.mem_singleton.1 ha
  exact numA_fit _ (by have:=byteN_lt b 0;omega)
 ·rw [if_neg h]
  obtain ⟨q1,q2,q3,q4,_⟩:=first86_num pl b (Classical.not_not.1 h)
  have hn:(if jumps86 (read86 b).1.1=true then ((read86 b).1.2.2.2 + pl + (read86 b).2.1) % 65536 else (read86 b).1.2.2.2) ≤ 65535:=by split <;> omega
  simp only
  generalize (if jumps86 (read86 b).1.1=true then ((read86 b).1.2.2.2 + pl + (read86 b).2.1) % 65536 else (read86 b).1.2.2.2)=n at *
  refine ⟨by simp,names86_fit ⟨(read86 b).1.1,by omega⟩,fun a ha=>?_⟩
  rcases List.mem_append.1 ha with ha | ha
  ·exact arg86_fit _ n q3 hn a ha
  ·exact arg86_fit _ n q4 hn a ha
theorem firstX_fit (d:Int) (pl:Nat) (b:List UInt8):fitS (firstX d pl b).1:=by
 by_cases h:d=2
 ·subst h;rw [firstX_86];exact first86_fit pl b
 ·rw [firstX_80 d h];exact first80_fit d b
theorem finD_fit (m:List Int) (p:Pc) (h:fitS p.s):fitS (finD m p):=by
 unfold finD
 refine ⟨?_,h.2.1,?_⟩
 ·simp only
  split
  ·simp [labelD]
  ·exact h.1
 ·simp only
  split
  ·intro a ha
   rcases List.mem_append.1 ha with ha | ha
   ·exact h.2.2 a (List.dropLast_subset _ ha)
   ·obtain rfl:=List.mem_singleton.1 ha
    exact ⟨by simp [nameA],by simp [nameA],by simp [nameA,labelD,fitE,fitL]⟩
  ·exact h.2.2
theorem stmts_fit (d n:Int) (b:List UInt8):(∀ s ∈ (stmtsD first86D d n b).1,fitS s)∧(stmtsD first86D d n b).1.length ≤ 65537:=by
 unfold stmtsD
 split
 ·simp
 ·split
  ·simp
  ·split
   ·simp
   ·rename_i h1 h2 h3
    have hl:=sweep_len (firstD first86D d) b.length n.toNat b
    have hp:=List.length_pos_iff.2 h3
    refine ⟨fun s hs=>?_,by simp;omega⟩
    simp only at hs
    rcases List.mem_cons.1 hs with rfl | hs
    ·refine ⟨by simp [orgS],by simp [orgS],fun a ha=>?_⟩
     obtain rfl:=List.mem_singleton.1 ha
     exact numA_fit _ (by omega)
    ·obtain ⟨p,hp,rfl⟩:=List.mem_map.1 hs
     exact finD_fit _ p (sweep_all (firstX d) (fun p=>fitS p.s) (fun pl b _=>firstX_fit d pl b) b.length n.toNat b p hp)
theorem showS_len (d:Int) (s:St):(showS d s).1.length ≤ 200:=by
 unfold showS
 split
 ·simp
 ·split
  ·simp
  ·simp only;omega
theorem textsD_snoc (d:Int) (l:List St) (s:St):textsD d (l ++ [s])=textsD d l ++ (showS d s).1 ++ [10]:=by simp [textsD]
theorem textsD_len (d:Int) (l:List St):(textsD d l).length ≤ 201 * l.length:=by
 induction l with
 | nil=>simp [textsD]
 | cons s l ih=>
  have h:=showS_len d s
  unfold textsD at *
  simp only [List.map_cons,List.flatten_cons,List.length_append,List.length_cons,List.length_nil] at *
  omega
theorem isb_below {B b:Nat} {bs:List Value} {w w':World} {T e:TypeId} (h:Lib.IsBuilder T e B b bs w) (hb:Below w.heap.size w w'):Lib.IsBuilder T e B b bs w':=by
 rcases h with h | h
 ·obtain ⟨h1,v,h2,h3,h4⟩:=h
  exact .inl ⟨h1,v,(hb.block b (lt_of_heap h2)).trans h2,own_below h3 hb,h4⟩
 ·obtain ⟨h1,v,h2,h3,h4⟩:=h
  exact .inr ⟨h1,v,(hb.block b (lt_of_heap h2)).trans h2,own_below h3 hb,h4⟩
set_option maxHeartbeats 4000000 in
set_option maxRecDepth 100000 in
theorem Text_any (d n:Int) (b:List UInt8) (v:Value) (w:World) (hg:GWL w) (hr:RdB w w.heap.size v b) (hl:b.length ≤ 1000000) :
  Calls Tryz.prog 10 #[.int .i64 d,.int .i64 n,v] w fun e w'=>e=.returned (.tuple #[.string ⟨(textD first86D d n b).1.toArray⟩,.int .i64 (textD first86D d n b).2])∧Below w.heap.size w w':=by
 have HS:=Lib.hid (Stmts_any d n b v w hg hr hl)
 have HFIT:=Lib.hid (stmts_fit d n b).1
 have hlen:=(stmts_fit d n b).2
 unfold textD
 obtain ⟨A,c,rfl,hc⟩:=hr.form
 clear hr
 generalize stmtsD first86D d n b=res at *
 obtain ⟨l,k⟩:=res
 simp only at *
 by_cases hk:k=0
 ·subst hk
  rw [if_neg (by simp)]
  go_enter Tryz.func10, Tryz.ntmps10
  go_wp2_with fail
  refine HS.out.mono ?_
  rintro e w1 ⟨lv,rfl,hst,hb1⟩
  obtain ⟨lA,lc,rfl,hlc,hlm⟩:=hst.form
  have ST:=Lib.hid hst
  have HB1:=Lib.hid hb1
  have hz1:=hb1.size
  have I0:=Lib.hid (Lib.fresh_isBuilder 61 5 w1)
  clear hst hb1 HS
  go_wp2_with fail
  go_loopw [27] (fun i wr=>∃ k:Nat,k ≤ l.length∧i=.int .i64 k∧Lib.IsBuilder 61 5 w1.heap.size w1.heap.size (Lib.byteCells (textsD d (l.take k))) wr∧Below w1.heap.size w1 wr∧w1.heap.size < wr.heap.size) (fun i _=>l.length - (intOf i).toNat)
  case atStart=>exact ⟨0,Nat.zero_le _,rfl,I0.out,(Below.refl _ _).alloc (Nat.le_refl _) _,by simp⟩
  case round=>
   obtain ⟨k,hk,rfl,hi,hb,hzr⟩:=hrel
   have HI:=Lib.hid hi
   have HB:=Lib.hid hb
   clear hi hb
   by_cases hlt:k < l.length
   ·obtain ⟨G,o,vk,hA,hgl,c0,c1,c2,c3,hsub⟩:=(ST.out.keep (w':=wr) (fun p hp=>HB.out.cell hp.2) (fun g hg=>hg)).get k hlt
    subst hA
    obtain ⟨sA,sc,rfl,hsc,hsm⟩:=hsub.form
    have hG:=hgl.2
    have BO:=Lib.hid (fun o=>(Below.refl wr.heap.size wr).alloc (Nat.le_refl _) o)
    have HW:=Lib.hid (fun o=>isb_below HI.out (BO.out o))
    have HSH:=Lib.hid (fun o=>show12_any d l[k] (.slice sA l[k].args.length sc) (wr.alloc o) (hg.below (bthen (bthen HB1.out HB.out) (BO.out o))) (HFIT.out _ (List.getElem_mem hlt)) (hsub.keep (fun p hp=>(BO.out o).cell (Nat.lt_trans hp.2 hzr)) (fun g hg=>by simp;omega)))
    have hsl:=showS_len d l[k]
    have htl:=textsD_len d (l.take k)
    have HTK:=Lib.hid (show textsD d (l.take (k + 1))=textsD d (l.take k) ++ (showS d l[k]).1 ++ [10] by rw [List.take_succ_eq_append_getElem hlt,textsD_snoc])
    have hkl:(l.take k).length=k:=by simp;omega
    rw [hkl] at htl
    generalize textsD d (l.take k)=tx at *
    generalize showS d l[k]=sh at *
    generalize l[k]=s at *
    obtain ⟨lab,colon,op,args⟩:=s
    obtain ⟨st,ks⟩:=sh
    unfold stV at HSH
    simp only at *
    clear hsub hsc hsm hgl
    go_wp2_with fail
    refine (HSH.out _).mono ?_
    rintro e w5 ⟨rfl,hb5⟩
    have H5:=Lib.hid (isb_below (HW.out _) hb5)
    have B5:=Lib.hid (bthen (HB.out.alloc HB.out.size _) hb5)
    have hz5:=hb5.size
    clear hb5
    go_wp2_with fail
    refine (bwrite_str _ _ tx st _ H5.out (by omega) (by simp at hz5;omega)).mono ?_
    rintro e w6 ⟨rfl,h6,hb6⟩
    have B6:=Lib.hid (B5.out.trans hb6)
    have H6:=Lib.hid h6
    have hz6:=hb6.size
    clear h6 hb6
    have HB7:=Lib.hid (bwrite_byte _ _ (tx ++ st) 10 _ H6.out (by simp;omega) (by simp at hz5;omega))
    go_wp2_with fail
    refine HB7.out.mono ?_
    rintro e w7 ⟨rfl,h7,hb7⟩
    have H7:=Lib.hid h7
    have B7:=Lib.hid (B6.out.trans hb7)
    have hz7:=hb7.size
    clear h7 hb7
    go_wp2_with fail
    go_roundw
    case rel=>exact ⟨k + 1,by omega,by go_num,by rw [HTK.out];exact H7.out,B7.out,by simp at hz5;omega⟩
    case measure=>simp [intOf];omega
   ·obtain rfl:k=l.length:=by omega
    rw [List.take_length] at HI
    have HX:=Lib.hid (Tryz.Builder_String_any _ _ _ _ HI.out HB.out.size)
    go_wp2_with fail
    refine HX.out.mono ?_
    rintro e w9 ⟨rfl,hb9⟩
    go_wp2_with fail
    go_ret2
    exact ⟨rfl,HB1.out.trans ((HB.out.trans hb9).mono HB1.out.size)⟩
 ·rw [if_pos hk]
  have e1:((k:Int) == 0)=false:=by rw [beq_eq_false_iff_ne];omega
  go_enter Tryz.func10, Tryz.ntmps10
  go_wp2_with fail
  refine HS.out.mono ?_
  rintro e w1 ⟨lv,rfl,hst,hb1⟩
  obtain ⟨lA,lc,rfl,hlc,hlm⟩:=hst.form
  go_wp2_with fail
  go_ret2
  exact ⟨rfl,hb1⟩
end Go.Proofs.YtagplldaooipmaaGreatDoor
/- law17: alive. -/
namespace Go.Proofs.YtagplldaooipmaaGreatDoor
open Go.RowKit
theorem al17:textD first86D 0 0 [0xc3,0,0]=([79,82,71,32,48,10,76,48,48,48,48,58,32,74,77,80,32,76,48,48,48,48,10],0):=by rfl
theorem rd_three (w:World) (x y z:Value) (T:TypeId):Rd (w.alloc (.cells #[x,y,z] T)) (w.alloc (.cells #[x,y,z] T)).heap.size (.slice (some ⟨w.heap.size,0,none⟩) 3 3) 3 [x,y,z]:=by
 have h:=heap_alloc_new w (.cells #[x,y,z] T)
 refine ⟨some ⟨w.heap.size,0,none⟩,3,rfl,Nat.le_refl _,fun _=>⟨w.heap.size,0,rfl,by simp,?_⟩⟩
 intro j u hj
 rw [Nat.zero_add,Lib.cell_of_heap h]
 simpa using hj
set_option maxHeartbeats 2000000 in
set_option maxRecDepth 100000 in
theorem alive17_any (w:World) (hg:GWL w):Calls Tryz.prog 6 #[] w fun e w'=>e=.returned (.bool true)∧Below w.heap.size w w':=by
 have B1:=Lib.hid ((Below.refl w.heap.size w).alloc (Nat.le_refl _) (.cells #[.int .u8 195,.int .u8 0,.int .u8 0] 5))
 have R1:Hid (RdB (w.alloc (.cells #[.int .u8 195,.int .u8 0,.int .u8 0] 5)) (w.alloc (.cells #[.int .u8 195,.int .u8 0,.int .u8 0] 5)).heap.size (.slice (some ⟨w.heap.size,0,none⟩) 3 3) [195,0,0]):=Lib.hid (rd_three w _ _ _ _)
 have HT:=Lib.hid (Text_any 0 0 [195,0,0] _ _ (hg.below B1.out) R1.out (by simp))
 rw [al17] at HT
 go_enter Tryz.func6, Tryz.ntmps6
 go_wp2_with fail
 refine HT.out.mono ?_
 rintro e w1 ⟨rfl,hb1⟩
 have B2:=Lib.hid (bthen B1.out hb1)
 clear hb1
 go_wp2_with fail
 go_ret
 exact ⟨rfl,B2.out⟩
end Go.Proofs.YtagplldaooipmaaGreatDoor
/- DisasmRight: the walk. -/
namespace Go.Proofs.YtagplldaooipmaaGreatDoor
open Go.RowKit
end Go.Proofs.YtagplldaooipmaaGreatDoor
