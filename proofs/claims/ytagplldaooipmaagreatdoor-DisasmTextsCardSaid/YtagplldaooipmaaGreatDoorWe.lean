/- We. -/
import Derived.Test.YtagplldaooipmaaGreatDoorRp3
import Derived.Test.YtagplldaooipmaaGreatDoorRp4
import Derived.Test.YtagplldaooipmaaGreatDoorRp5
import Derived.Test.YtagplldaooipmaaGreatDoorRp7
import Derived.Test.YtagplldaooipmaaGreatDoorRp8
import Derived.Test.YtagplldaooipmaaGreatDoorWd
import Derived.RegionTactic
import Derived.Test.YtagplldaooipmaaGreatDoorVp
import Derived.StillTactics
import Derived.StillTailTactics
namespace Go.Proofs.YtagplldaooipmaaGreatDoor
open Go.RowKit
theorem read80_ltR (b:List UInt8):(read80 b).1.1 < 256∧(read80 b).1.2 < 65536:=by
 have h0:=byteN_lt b 0
 have h1:=byteN_lt b 1
 have h2:=byteN_lt b 2
 unfold read80 n80
 repeat' (first | split | (simp;done) | (simp;omega))
theorem map_oneR (l:List (List UInt8)) (a:Ar) (h:l.length=1):l.map (fun _=>a) = [a]:=by
 match l,h with
 | [x],_=>rfl
theorem decJ (j:Bool) (n:Nat):decide (0 ≤ (if j=true then (n:Int) else -1))=j:=by
 cases j
 ·rfl
 ·simp
theorem of80_any (d:Int) (pl:Nat) (b:List UInt8) (v:Value) (w:World) (hr:RdB w w.heap.size v b) (hl:b.length ≤ 1000000) (h0:b ≠ []) :
  Calls Tryz.prog 39 #[.int .i64 d,.int .i64 (pl:Int),v] w (PieceR w (rp80 d pl b)):=by
 obtain ⟨h1,h2⟩:=read80_ltR b
 unfold rp80
 rcases hrd:read80 b with ⟨⟨op,n⟩,size,kd⟩
 rw [hrd] at h1 h2
 simp only at h1 h2 ⊢
 by_cases hk:kd=0
 ·subst hk
  rw [decide_eq_false (by simp)]
  unfold rpOf first80D
  rw [hrd]
  simp only [ne_eq,not_true_eq_false,if_false,Bool.false_eq_true]
  rw [decJ]
  unfold st80 nm80 ar80 rst80
  by_cases hq:op / 64=3∧op % 8=7
  ·rw [if_pos hq]
   simp only
   by_cases hd:d=1
   ·subst hd
    simp only [if_true]
    rw [← map_oneR (zargs op) (numA (op / 8 % 8 * 8)) (rst_words7 ⟨op,h1⟩ hq).1]
    exact of80_zr b v w hr hl op n size hrd h1 h2 hq pl
   ·simp only [if_neg hd]
    rw [← map_oneR (args80 op) (numA (op / 8 % 8)) (rst_words6 ⟨op,h1⟩ hq).1]
    exact of80_ir b v w hr hl op n size hrd h1 h2 hq pl d (by rw [beq_eq_false_iff_ne];exact hd)
  ·rw [if_neg hq]
   simp only
   by_cases hd:d=1
   ·subst hd
    simp only [if_true]
    exact of80_zn b v w hr hl op n size hrd h1 h2 hq pl
   ·simp only [if_neg hd]
    exact of80_in b v w hr hl op n size hrd h1 h2 hq pl d (by rw [beq_eq_false_iff_ne];exact hd)
 ·rw [decide_eq_true hk]
  exact of80_bad d pl b v w hr hl h0 op n size kd hrd hk
set_option maxHeartbeats 4000000 in
theorem of86_bad (pl:Nat) (b:List UInt8) (v:Value) (w:World) (hr:RdB w w.heap.size v b) (hl:b.length ≤ 1000000) (h0:b ≠ []) (hk:(read86 b).2.2 ≠ 0) :
  Calls Tryz.prog 38 #[.int .i64 (pl:Int),v] w (PieceR w ⟨pl,1,[],[],false,0,byteN b 0⟩):=by
 have HR:=Lib.hid (fun W (hW:Below w.heap.size w W)=>refRead8_any b v W ((hr.below hW).more hW.size) hl)
 obtain ⟨A,c,rfl,hc⟩:=hr.form
 have hlen:0 < b.length:=List.length_pos_iff.2 h0
 obtain ⟨g,o,rfl,hg,hcell⟩:=hr.get 0 hlen
 have c0:=hcell 0 hlen
 rw [Nat.add_zero] at c0
 have HK:=Lib.hid hk
 generalize byteN b 0=x at *
 clear hr hc hl hcell h0 hk
 go_enter Tryz.func38, Tryz.ntmps38
 go_wp2_with fail
 refine (HR.out _ ((Below.refl _ _).alloc (Nat.le_refl _) _)).mono ?_
 rintro e w1 ⟨r,k,_,rfl,hk2,_,rfl,hb1⟩
 obtain ⟨r1,r2,r3,r4,r5,kd⟩:=r
 have hk':((kd:Int) != 0)=true:=by rw [bne_iff_ne];intro h;exact HK.out (hk2.1 (by simp only;omega))
 have B1:=Lib.hid (bthen ((Below.refl _ _).alloc (Nat.le_refl _) _) hb1)
 have C1:=Lib.hid ((hb1.block w.heap.size (by simp)).trans (heap_alloc_new w _))
 have d0:=(hb1.cell (p:=⟨g,o,none⟩) (by simp;omega)).trans ((World.cell?_alloc_lt w (.cells #[.int .i64 0,.int .i64 0,.string ⟨#[]⟩,.slice none 0 0,.bool false,.int .i64 0,.int .u8 0] 56) ⟨g,o,none⟩ hg).trans c0)
 have Z1:=Lib.hid (lt_of_heap C1.out)
 have hgz:g < w1.heap.size:=by have:=Z1.out;omega
 have hz1:w.heap.size < w1.heap.size:=Z1.out
 have C2:=Lib.hid ((Below.heap_alloc w1 (.cells #[.int .i64 (r1:Int),.int .i64 (r2:Int),.int .i64 (r3:Int),.int .u16 (r4:Int)] 107) w.heap.size Z1.out).trans C1.out)
 have B2:=Lib.hid (B1.out.alloc B1.out.size (.cells #[.int .i64 (r1:Int),.int .i64 (r2:Int),.int .i64 (r3:Int),.int .u16 (r4:Int)] 107))
 have d2:=(World.cell?_alloc_lt w1 (.cells #[.int .i64 (r1:Int),.int .i64 (r2:Int),.int .i64 (r3:Int),.int .u16 (r4:Int)] 107) ⟨g,o,none⟩ hgz).trans d0
 clear hb1 HR c0 hk2
 go_upto_region 3 with (fail)
 clear d0 B1 C1 Z1 hz1 hgz HK
 generalize w1.alloc (.cells #[.int .i64 (r1:Int),.int .i64 (r2:Int),.int .i64 (r3:Int),.int .u16 (r4:Int)] 107)=w2 at *
 obtain ⟨⟨k0,k1,k2,k3,k4,k5,k6⟩,f0,f1,f2,f3,f4,f5,f6⟩:=seven C2.out
 clear C2
 go_wp2_with fail
 refine bodyPost_ret (v:=.agg #[.int .i64 pl,.int .i64 1,.string ⟨#[]⟩,nilV,.bool false,.int .i64 0,.int .u8 x]) (by simp [results,Tryz.results38,go_sem,k0,k1,k2,k3,k4,k5,k6]) rfl ⟨_,rfl,World.ownsRow_nil _ _ _ _,?_⟩
 exact ((((((B2.out.setCell (Nat.le_refl _) _).setCell (Nat.le_refl _) _).setCell (Nat.le_refl _) _).setCell (Nat.le_refl _) _).setCell (Nat.le_refl _) _).setCell (Nat.le_refl _) _).setCell (Nat.le_refl _) _
theorem of86_any (pl:Nat) (b:List UInt8) (v:Value) (w:World) (hr:RdB w w.heap.size v b) (hl:pl + b.length ≤ 1000000) (h0:b ≠ []) :
  Calls Tryz.prog 38 #[.int .i64 (pl:Int),v] w (PieceR w (rp86 pl b)):=by
 by_cases hk:(read86 b).2.2=0
 ·obtain ⟨q1,q2,q3,q4,q5⟩:=first86_num pl b hk
  unfold rp86
  rcases hrd:read86 b with ⟨⟨op,d,s,n⟩,size,kd⟩
  rw [hrd] at q1 q2 q3 q4 q5 hk
  simp only at q1 q2 q3 q4 q5 hk
  subst hk
  simp only
  rw [decide_eq_false (by simp)]
  unfold rpOf first86D
  rw [hrd]
  simp only [ne_eq,not_true_eq_false,if_false,Bool.false_eq_true]
  rw [decJ]
  cases hj:jumps86 op with
  | true=>
   simp only [if_true]
   exact of86_j pl b v w hr hl op d s n size ((n + pl + size) % 65536) hrd q2 q3 q4 q1 q5 hj rfl
  | false=>
   simp only [if_false,Bool.false_eq_true]
   exact of86_n pl b v w hr hl op d s n size n hrd q2 q3 q4 q1 q5 hj rfl
 ·unfold rp86 rpOf
  rw [decide_eq_true hk,if_pos rfl]
  exact of86_bad pl b v w hr (by omega) h0 hk
theorem first80_sizeR (d:Int) (b:List UInt8) (h0:b ≠ []):1 ≤ (first80D d b).2.1∧(first80D d b).2.1 ≤ b.length:=by
 have hl:0 < b.length:=List.length_pos_iff.2 h0
 unfold first80D
 split
 ·simp [dbD];omega
 ·rename_i hk
  have hk':(read80 b).2.2=0:=by simpa using hk
  unfold read80 at hk' ⊢
  split <;> simp_all
  split <;> simp_all
  split <;> simp_all
  omega
theorem rpX_size (d:Int) (pl:Nat) (b:List UInt8) (h0:b ≠ []):1 ≤ (rpX d pl b).size∧(rpX d pl b).size ≤ b.length:=by
 rw [(rpX_pl d pl b).2]
 unfold firstD
 split
 ·exact ⟨(first86_size pl b h0).1,(first86_size pl b h0).2.1⟩
 ·exact first80_sizeR d b h0
end Go.Proofs.YtagplldaooipmaaGreatDoor
/- The reference's layer 17: Pieces. -/
namespace Go.Proofs.YtagplldaooipmaaGreatDoor
open Go.RowKit
def PiecesL (w:World) (first:Nat → List UInt8 → Rp) (F pl0:Nat) (b0:List UInt8) (v at' bv:Value) (n:Nat) (wr:World):Prop:=∃ (f pl:Nat) (b:List UInt8) (l:List Rp) (vs:List Value),at'=.int .i64 pl∧RdB wr w.heap.size bv b∧RpOwn wr w.heap.size v l vs∧l ++ piecesR first f pl b=piecesR first F pl0 b0∧b.length ≤ f∧pl + b.length=pl0 + b0.length∧l.length + b.length ≤ b0.length∧b.length=n∧Below w.heap.size w wr
def lenOfR (v:Value):Nat:=match v with | .slice _ n _=>n | _=>0
def PiecesP (w:World) (l:List Rp) (e:Ending) (w':World):Prop:=∃ v vs,e=.returned v∧RpOwn w' w.heap.size v l vs∧Below w.heap.size w w'
set_option maxHeartbeats 4000000 in
set_option maxRecDepth 100000 in
theorem Pieces_any (d:Int) (pl0:Nat) (b0:List UInt8) (v:Value) (w:World) (hr:RdB w w.heap.size v b0) (hl:pl0 + b0.length ≤ 1000000) :
  Calls Tryz.prog 17 #[.int .i64 d,.int .i64 (pl0:Int),v] w (PiecesP w (piecesR (rpX d) b0.length pl0 b0)):=by
 obtain ⟨A,c,rfl,hc⟩:=hr.form
 generalize hres:piecesR (rpX d) b0.length pl0 b0=res
 have HRES:=Lib.hid hres
 clear hres
 have HR0:=Lib.hid hr
 clear hr
 have HFC:((d == 2)=true∧Hid (∀ (pl:Nat) (b:List UInt8) (v:Value) (W:World),RdB W W.heap.size v b → pl + b.length ≤ 1000000 → b ≠ [] → Calls Tryz.prog 38 #[.int .i64 (pl:Int),v] W (PieceR W (rpX d pl b)))) ∨
   ((d == 2)=false∧Hid (∀ (pl:Nat) (b:List UInt8) (v:Value) (W:World),RdB W W.heap.size v b → pl + b.length ≤ 1000000 → b ≠ [] → Calls Tryz.prog 39 #[.int .i64 d,.int .i64 (pl:Int),v] W (PieceR W (rpX d pl b)))):=by
  unfold rpX
  by_cases h:d=2
  ·exact .inl ⟨by rw [beq_iff_eq];exact h,Lib.hid (fun pl b v W h1 h2 h3=>by rw [if_pos h];exact of86_any pl b v W h1 h2 h3)⟩
  ·exact .inr ⟨by rw [beq_eq_false_iff_ne];exact h,Lib.hid (fun pl b v W h1 h2 h3=>by rw [if_neg h];exact of80_any d pl b v W h1 (by omega) h3)⟩
 rcases HFC with ⟨e2,HFC⟩ | ⟨e2,HFC⟩
 all_goals (
  go_enter Tryz.func17, Tryz.ntmps17
  go_wp2_with fail
  go_loopw [7,1,2] (fun v at' bv wr=>PiecesL w (rpX d) b0.length pl0 b0 v at' bv (lenOfR bv) wr) (fun _ _ bv _=>lenOfR bv)
  case atStart=>exact ⟨b0.length,pl0,b0,[],[],rfl,HR0.out,RpOwn.nil _ _,rfl,Nat.le_refl _,rfl,by simp,rfl,Below.refl _ _⟩
  case round=>
   obtain ⟨f,pl,b,l,vs,rfl,hrb,hpc,hsw,hf,hpl,hll,hn,hbw⟩:=hrel
   obtain ⟨bA,bc,rfl,hbc⟩:=hrb.form
   obtain ⟨vA,vc,rfl,hvc,hvm,_⟩:=own_slice hpc.2.1 (by omega)
   have HPC:=Lib.hid hpc
   have HSW:=Lib.hid hsw
   have HBW:=Lib.hid hbw
   have HRB:=Lib.hid hrb
   have hsz:=hbw.size
   clear hpc hsw hbw hrb hn hvm
   by_cases h0:b = []
   ·subst h0
    have hfin:=HSW.out
    rw [show piecesR (rpX d) f pl [] = [] by cases f <;> rfl,List.append_nil] at hfin
    have HF:=Lib.hid (hfin.trans HRES.out)
    clear hfin
    go_wp2_with fail
    go_ret
    obtain rfl:=HF.out
    exact ⟨_,vs,rfl,HPC.out,HBW.out⟩
   ·have hb0:0 < b.length:=List.length_pos_iff.2 h0
    have hb0i:(0:Int) < (b.length:Int):=by omega
    have HF1:=Lib.hid (fun W (hW:Below wr.heap.size wr W)=>HFC.out pl b _ W ((HRB.out.below (hW.mono hsz)).more (Nat.le_trans hsz hW.size)) (by omega) h0)
    obtain ⟨s1,s2⟩:=rpX_size d pl b h0
    have s3:=(rpX_pl d pl b).1
    obtain ⟨f',rfl⟩:∃ f',f=f' + 1:=⟨f - 1,by omega⟩
    have hstep:piecesR (rpX d) (f' + 1) pl b=rpX d pl b :: piecesR (rpX d) f' (pl + (rpX d pl b).size) (b.drop (rpX d pl b).size):=by rw [piecesR,if_neg h0]
    have HST:=Lib.hid hstep
    clear hstep
    generalize rpX d pl b=r at *
    obtain ⟨rpl,size,nm,args,j,tn,bb⟩:=r
    simp only at s1 s2 s3
    replace s3:=s3.symm
    subst s3
    simp only at HF1 HST
    go_wp2_with fail
    refine (HF1.out _ ((Below.refl _ _).alloc (Nat.le_refl _) _)).mono ?_
    rintro e w2 ⟨av,rfl,hown,hb2⟩
    simp only at hown
    obtain ⟨aA,ac,rfl,hac,ham,_⟩:=own_slice hown (by omega)
    have C2:=Lib.hid ((hb2.block wr.heap.size (by simp)).trans (heap_alloc_new wr (.cells #[.int .i64 0,.int .i64 0,.string ⟨#[]⟩,.slice none 0 0,.bool false,.int .i64 0,.int .u8 0] 56)))
    have O2:=Lib.hid hown
    have B2:=Lib.hid hb2
    clear hown hb2 HF1 ham
    obtain ⟨⟨k0,k1,k2,k3,k4,k5,k6⟩,f0,f1,f2,f3,f4,f5,f6⟩:=seven C2.out
    have hP2:wr.heap.size < w2.heap.size:=lt_of_heap C2.out
    have B3:=Lib.hid (show Below wr.heap.size wr (((((((w2.setCell ⟨wr.heap.size,0,none⟩ (.int .i64 (pl:Int))).setCell ⟨wr.heap.size,1,none⟩ (.int .i64 (size:Int))).setCell ⟨wr.heap.size,2,none⟩ (.string ⟨nm.toArray⟩)).setCell ⟨wr.heap.size,3,none⟩ (.slice aA args.length ac)).setCell ⟨wr.heap.size,4,none⟩ (.bool j)).setCell ⟨wr.heap.size,5,none⟩ (.int .i64 (tn:Int))).setCell ⟨wr.heap.size,6,none⟩ (.int .u8 (bb:Int))) from (((((((bthen ((Below.refl _ _).alloc (Nat.le_refl _) _) B2.out).setCell (Nat.le_refl _) _).setCell (Nat.le_refl _) _).setCell (Nat.le_refl _) _).setCell (Nat.le_refl _) _).setCell (Nat.le_refl _) _).setCell (Nat.le_refl _) _).setCell (Nat.le_refl _) _)
    have Z3:(((((((w2.setCell ⟨wr.heap.size,0,none⟩ (.int .i64 (pl:Int))).setCell ⟨wr.heap.size,1,none⟩ (.int .i64 (size:Int))).setCell ⟨wr.heap.size,2,none⟩ (.string ⟨nm.toArray⟩)).setCell ⟨wr.heap.size,3,none⟩ (.slice aA args.length ac)).setCell ⟨wr.heap.size,4,none⟩ (.bool j)).setCell ⟨wr.heap.size,5,none⟩ (.int .i64 (tn:Int))).setCell ⟨wr.heap.size,6,none⟩ (.int .u8 (bb:Int))).heap.size=w2.heap.size:=by simp
    have hne:∀ g,(Value.slice vA l.length vc).ownBlock=some g → g < wr.heap.size:=fun g hg=>(HPC.out.2.1.lt g hg).2
    have HO8:=Lib.hid (show ((((((((w2.setCell ⟨wr.heap.size,0,none⟩ (.int .i64 (pl:Int))).setCell ⟨wr.heap.size,1,none⟩ (.int .i64 (size:Int))).setCell ⟨wr.heap.size,2,none⟩ (.string ⟨nm.toArray⟩)).setCell ⟨wr.heap.size,3,none⟩ (.slice aA args.length ac)).setCell ⟨wr.heap.size,4,none⟩ (.bool j)).setCell ⟨wr.heap.size,5,none⟩ (.int .i64 (tn:Int))).setCell ⟨wr.heap.size,6,none⟩ (.int .u8 (bb:Int))).alloc (.cells (rpCells ⟨pl,size,nm,args,j,tn,bb⟩ (.slice aA args.length ac)).toArray 56)).ownsRow w.heap.size 56 7 (.slice vA l.length vc) l.length (rowV rpCells l vs) from (own_below HPC.out.2.1 B3.out).alloc _)
    have HN8:=Lib.hid (rd_new (((((((w2.setCell ⟨wr.heap.size,0,none⟩ (.int .i64 (pl:Int))).setCell ⟨wr.heap.size,1,none⟩ (.int .i64 (size:Int))).setCell ⟨wr.heap.size,2,none⟩ (.string ⟨nm.toArray⟩)).setCell ⟨wr.heap.size,3,none⟩ (.slice aA args.length ac)).setCell ⟨wr.heap.size,4,none⟩ (.bool j)).setCell ⟨wr.heap.size,5,none⟩ (.int .i64 (tn:Int))).setCell ⟨wr.heap.size,6,none⟩ (.int .u8 (bb:Int))) w2.heap.size Z3 (rpCells ⟨pl,size,nm,args,j,tn,bb⟩ (.slice aA args.length ac)) 56)
    have HU8:=Lib.hid (show ArgRow ((((((((w2.setCell ⟨wr.heap.size,0,none⟩ (.int .i64 (pl:Int))).setCell ⟨wr.heap.size,1,none⟩ (.int .i64 (size:Int))).setCell ⟨wr.heap.size,2,none⟩ (.string ⟨nm.toArray⟩)).setCell ⟨wr.heap.size,3,none⟩ (.slice aA args.length ac)).setCell ⟨wr.heap.size,4,none⟩ (.bool j)).setCell ⟨wr.heap.size,5,none⟩ (.int .i64 (tn:Int))).setCell ⟨wr.heap.size,6,none⟩ (.int .u8 (bb:Int))).alloc (.cells (rpCells ⟨pl,size,nm,args,j,tn,bb⟩ (.slice aA args.length ac)).toArray 56)) (fun g=>wr.heap.size ≤ g∧g < ((((((((w2.setCell ⟨wr.heap.size,0,none⟩ (.int .i64 (pl:Int))).setCell ⟨wr.heap.size,1,none⟩ (.int .i64 (size:Int))).setCell ⟨wr.heap.size,2,none⟩ (.string ⟨nm.toArray⟩)).setCell ⟨wr.heap.size,3,none⟩ (.slice aA args.length ac)).setCell ⟨wr.heap.size,4,none⟩ (.bool j)).setCell ⟨wr.heap.size,5,none⟩ (.int .i64 (tn:Int))).setCell ⟨wr.heap.size,6,none⟩ (.int .u8 (bb:Int))).alloc (.cells (rpCells ⟨pl,size,nm,args,j,tn,bb⟩ (.slice aA args.length ac)).toArray 56)).heap.size) (.slice aA args.length ac) args from (ArgRow.of_own ((own_set (own_set (own_set (own_set (own_set (own_set (own_set O2.out (by simp)) (by simp)) (by simp)) (by simp)) (by simp)) (by simp)) (by simp)).alloc _)).keep (fun _ _=>rfl) (fun g hg=>⟨Nat.le_trans (by simp) hg.1,hg.2⟩))
    have B4:=Lib.hid (B3.out.alloc B3.out.size (.cells (rpCells ⟨pl,size,nm,args,j,tn,bb⟩ (.slice aA args.length ac)).toArray 56))
    have C3:=Lib.hid ((Below.heap_alloc (((((((w2.setCell ⟨wr.heap.size,0,none⟩ (.int .i64 (pl:Int))).setCell ⟨wr.heap.size,1,none⟩ (.int .i64 (size:Int))).setCell ⟨wr.heap.size,2,none⟩ (.string ⟨nm.toArray⟩)).setCell ⟨wr.heap.size,3,none⟩ (.slice aA args.length ac)).setCell ⟨wr.heap.size,4,none⟩ (.bool j)).setCell ⟨wr.heap.size,5,none⟩ (.int .i64 (tn:Int))).setCell ⟨wr.heap.size,6,none⟩ (.int .u8 (bb:Int))) (.cells (rpCells ⟨pl,size,nm,args,j,tn,bb⟩ (.slice aA args.length ac)).toArray 56) wr.heap.size (by rw [Z3];exact hP2)).trans (heap_set (i:=6) (.int .u8 (bb:Int)) (heap_set (i:=5) (.int .i64 (tn:Int)) (heap_set (i:=4) (.bool j) (heap_set (i:=3) (.slice aA args.length ac) (heap_set (i:=2) (.string ⟨nm.toArray⟩) (heap_set (i:=1) (.int .i64 (size:Int)) (heap_set (i:=0) (.int .i64 (pl:Int)) C2.out))))))))
    have hb8:w.heap.size ≤ ((((((((w2.setCell ⟨wr.heap.size,0,none⟩ (.int .i64 (pl:Int))).setCell ⟨wr.heap.size,1,none⟩ (.int .i64 (size:Int))).setCell ⟨wr.heap.size,2,none⟩ (.string ⟨nm.toArray⟩)).setCell ⟨wr.heap.size,3,none⟩ (.slice aA args.length ac)).setCell ⟨wr.heap.size,4,none⟩ (.bool j)).setCell ⟨wr.heap.size,5,none⟩ (.int .i64 (tn:Int))).setCell ⟨wr.heap.size,6,none⟩ (.int .u8 (bb:Int))).alloc (.cells (rpCells ⟨pl,size,nm,args,j,tn,bb⟩ (.slice aA args.length ac)).toArray 56)).heap.size:=Nat.le_trans hsz B4.out.size
    have Z4:((((((((w2.setCell ⟨wr.heap.size,0,none⟩ (.int .i64 (pl:Int))).setCell ⟨wr.heap.size,1,none⟩ (.int .i64 (size:Int))).setCell ⟨wr.heap.size,2,none⟩ (.string ⟨nm.toArray⟩)).setCell ⟨wr.heap.size,3,none⟩ (.slice aA args.length ac)).setCell ⟨wr.heap.size,4,none⟩ (.bool j)).setCell ⟨wr.heap.size,5,none⟩ (.int .i64 (tn:Int))).setCell ⟨wr.heap.size,6,none⟩ (.int .u8 (bb:Int))).alloc (.cells (rpCells ⟨pl,size,nm,args,j,tn,bb⟩ (.slice aA args.length ac)).toArray 56)).heap.size=w2.heap.size + 1:=by simp
    obtain ⟨g,o,rfl,hgg,_⟩:=HRB.out.get 0 hb0
    clear B3 O2 C2
    go_wp2_with (at_builtin;go_loud (refine wpList_append_to _ rfl (.tmp 22) (.tmp 24) 50 rfl w.heap.size 56 _ 7 80 Tryz.underlying50 info_rp rfl (by omega) HO8.out rfl HN8.out rfl rfl (rpCells_one _ _ _ _) (by omega) (by omega) hb8 ?_;intro v9 w9 hown9 hbel9 hg9 hv9;obtain ⟨A9,c9,rfl,hc9,hm9,_⟩:=own_slice hown9 (by omega);have PN:=Lib.hid (RpOwn.snoc HPC.out hsz B4.out HU8.out hown9 hg9 hv9);have BB:=Lib.hid ((HBW.out.trans (B4.out.mono hsz)).trans hbel9);have C9:=Lib.hid ((hg9.block wr.heap.size (Nat.lt_of_lt_of_le hP2 (by simp)) (fun h=>by have:=hne _ h.symm;omega)).trans C3.out);have RB:=Lib.hid (HRB.out.below ((B4.out.mono hsz).trans hbel9));have y1:=cell_of_heap (i:=1) C9.out;simp at y1;clear hown9 hbel9 hg9 hv9 k0 k1 k2 k3 k4 k5 k6 f0 f1 f2 f3 f4 f5 f6 HO8 HN8 HU8 B4 C3 hb8 Z4 Z3 HRB))
    have hw1:IntKind.i64.wrap ((pl:Int) + (size:Int))=(pl:Int) + (size:Int):=IntWalk.i64_in _ (by omega)
    have RD:=Lib.hid (RdB.drop size RB.out s2)
    go_wp2_with fail
    all_goals (
     go_roundw
     case rel=>
      refine ⟨f',pl + size,b.drop size,l ++ [⟨pl,size,nm,args,j,tn,bb⟩],_,by go_num,RD.out,PN.out,?_,?_,?_,?_,?_,BB.out⟩
      ·rw [← HSW.out,HST.out,List.append_assoc];rfl
      ·rw [List.length_drop];omega
      ·rw [List.length_drop];omega
      ·rw [List.length_drop,List.length_append];simp;omega
      ·rw [List.length_drop];rfl
     case measure=>simp [lenOfR];omega))
end Go.Proofs.YtagplldaooipmaaGreatDoor
/- The reference's layer 17: Stmts: what can't be; rows of statements. -/
namespace Go.Proofs.YtagplldaooipmaaGreatDoor
open Go.RowKit
theorem rpX_jargs (d:Int) (pl:Nat) (b:List UInt8):((rpX d pl b).jumps=true → (rpX d pl b).args ≠ [])∧(∀ a ∈ (rpX d pl b).args,a.e.sub = [])∧(rpX d pl b).b < 256∧(rpX d pl b).tn < 65536:=by
 have hx:=firstX_args d pl b
 have hb0:=byteN_lt b 0
 have h80:=read80_ltR b
 unfold rpX
 unfold firstD at hx
 by_cases h:d=2
 ·rw [if_pos h] at hx ⊢
  unfold rp86 rpOf
  by_cases hb:(read86 b).2.2 ≠ 0
  ·rw [decide_eq_true hb,if_pos rfl]
   exact ⟨fun h=>by simp at h,fun a ha=>by simp at ha,hb0,by simp⟩
  ·rw [decide_eq_false hb]
   simp only [Bool.false_eq_true,if_false]
   refine ⟨fun hj=>hx.1 (by simpa using hj),hx.2,by simp,?_⟩
   split
   ·unfold first86D
    rw [if_neg hb]
    simp only
    split <;> omega
   ·simp
 ·rw [if_neg h] at hx ⊢
  unfold rp80 rpOf
  by_cases hb:(read80 b).2.2 ≠ 0
  ·rw [decide_eq_true hb,if_pos rfl]
   exact ⟨fun h=>by simp at h,fun a ha=>by simp at ha,hb0,by simp⟩
  ·rw [decide_eq_false hb]
   simp only [Bool.false_eq_true,if_false]
   exact ⟨fun hj=>hx.1 (by simpa using hj),hx.2,by simp,h80.2⟩
theorem rpX_few (d:Int) (hd:0 ≤ d∧d ≤ 2) (pl:Nat) (b:List UInt8):(rpX d pl b).args.length ≤ 2:=by
 have hx:=(okP_first d hd pl b (byteN_lt17r b)).few
 unfold rpX
 unfold firstD at hx
 by_cases h:d=2
 ·rw [if_pos h] at hx ⊢
  unfold rp86 rpOf
  split
  ·simp
  ·exact hx
 ·rw [if_neg h] at hx ⊢
  unfold rp80 rpOf
  split
  ·simp
  ·exact hx
theorem ArgRow.rd {w:World} {S:Nat → Prop} {v:Value} {l:List Ar} {B:Nat} (h:ArgRow w S v l) (hS:∀ g,S g → g < B):Rd w B v l.length (rowA l):=by
 rcases h with ⟨rfl,rfl⟩ | ⟨g,c,cur,rfl,h2,h3,h4,h5,h6,h7⟩
 ·exact ⟨none,0,rfl,Nat.le_refl _,fun h=>absurd h (by simp)⟩
 ·refine ⟨_,c,rfl,h4,fun _=>⟨g,0,rfl,hS g h2,fun j u hu=>?_⟩⟩
  rw [Nat.zero_add,cell_of_heap h3]
  rw [← h7,List.getElem?_take] at hu
  split at hu
  ·simpa using hu
  ·simp at hu
theorem rowA_one (l:List Ar):∀ u ∈ rowA l,u.oneCell'=true:=by
 intro u hu
 obtain ⟨a,_,h⟩:=List.mem_flatMap.1 hu
 exact arCells_one a nilV rfl u h
theorem pieces_in (d:Int):∀ k pl b,∀ p ∈ piecesR (rpX d) k pl b,p.pl < pl + b.length
 | 0,_,_,p,hp=>by simp [piecesR] at hp
 | k + 1,pl,b,p,hp=>by
  unfold piecesR at hp
  by_cases hb:b = []
  ·rw [if_pos hb] at hp;simp at hp
  ·rw [if_neg hb] at hp
   have h1:=rpX_size d pl b hb
   rcases List.mem_cons.1 hp with rfl | hp
   ·rw [(rpX_pl d pl b).1];omega
   ·have:=pieces_in d k _ _ p hp
    rw [List.length_drop] at this
    omega
theorem pieces_few (f:Nat → List UInt8 → Rp):∀ k pl b,(piecesR f k pl b).length ≤ k
 | 0,_,_=>by simp [piecesR]
 | k + 1,pl,b=>by
  unfold piecesR
  split
  ·simp
  ·have:=pieces_few f k (pl + (f pl b).size) (b.drop (f pl b).size)
   simp only [List.length_cons];omega
theorem labelsR_few (l:List Rp):(labelsR l).length ≤ 1000:=by
 unfold labelsR
 rw [labelsK_eq l l [] (by simp),List.length_take]
 omega
def StOwnR (w:World) (B base:Nat) (v:Value) (l:List St) (us:List Value):Prop:=
 us.length=l.length∧w.ownsRow B 31 4 v l.length (rowV stCells l us)∧(∀ i (hi:i < l.length),ArgRow w (fun g=>base ≤ g∧g < w.heap.size∧v.ownBlock ≠ some g) (us.getD i nilV) l[i].args)
theorem StOwnR.snoc {w w0 w':World} {B base:Nat} {v v' u:Value} {l:List St} {p:St} {us:List Value} (h:StOwnR w B base v l us) (h0:Below w.heap.size w w0)
  (hu:ArgRow w0 (fun g=>base ≤ g∧g < w0.heap.size∧v.ownBlock ≠ some g) u p.args) (hown:w'.ownsRow B 31 4 v' (l.length + 1) (rowV stCells l us ++ stCells p u)) (hg:w0.grownBy w' v.ownBlock) (hv:v'.ownBlock=v.ownBlock ∨ v'.ownBlock=some w0.heap.size) :
  StOwnR w' B base v' (l ++ [p]) (us ++ [u]):=by
 obtain ⟨h1,h2,h3⟩:=h
 have hS:∀ g,(base ≤ g∧g < w0.heap.size∧v.ownBlock ≠ some g) → (base ≤ g∧g < w'.heap.size∧v'.ownBlock ≠ some g):=by
  rintro g ⟨g1,g2,g3⟩
  refine ⟨g1,Nat.lt_of_lt_of_le g2 hg.size,?_⟩
  rcases hv with hv | hv <;> rw [hv]
  ·exact g3
  ·intro h;injection h with h;omega
 have hK:∀ g,(base ≤ g∧g < w0.heap.size∧v.ownBlock ≠ some g) → w'.heap[g]? = w0.heap[g]?:=fun g hp=>hg.block g hp.2.1 (fun h=>hp.2.2 h.symm)
 refine ⟨by simp [h1],by rw [rowV_snoc l p u us h1];simpa using hown,fun i hi=>?_⟩
 by_cases hil:i < l.length
 ·rw [getD_app_left (by omega),List.getElem_append_left hil]
  exact ((h3 i hil).keep (fun g hg=>h0.block g hg.2.1) (fun g hg=>⟨hg.1,Nat.lt_of_lt_of_le hg.2.1 h0.size,hg.2.2⟩)).keep hK hS
 ·have hie:i=us.length:=by simp at hi;omega
  subst hie
  have e1:(l ++ [p])[us.length]'hi=p:=by simp [h1]
  rw [getD_app_last,e1]
  exact hu.keep hK hS
theorem stR_sub (M:List Nat) (r:Rp) (h:∀ a ∈ r.args,a.e.sub = []):∀ a ∈ (stR M r).args,a.e.sub = []:=by
 have h2:∀ a ∈ (if r.op = [] then [numA r.b] else r.args),a.e.sub = []:=by
  intro a ha
  split at ha
  ·simp at ha;subst ha;rfl
  ·exact h a ha
 intro a ha
 unfold stR at ha
 simp only at ha
 split at ha
 ·rcases List.mem_append.1 ha with h1 | h1
  ·exact h2 a (List.dropLast_subset _ h1)
  ·simp at h1;subst h1;rfl
 ·exact h2 a ha
def MidS (w wr:World) (ov:Value) (lab:List UInt8) (col:Bool) (op:List UInt8) (args:List Ar) (wx:World):Prop:=
 ∃ av,wx.heap[wr.heap.size]? = some (.cells #[.string ⟨lab.toArray⟩,.bool col,.string ⟨op.toArray⟩,av] 31 (0,0))∧ArgRow wx (fun g=>w.heap.size ≤ g∧g < wx.heap.size∧ov.ownBlock ≠ some g∧g ≠ wr.heap.size) av args∧Below wr.heap.size wr wx
set_option maxHeartbeats 2000000 in
set_option maxRecDepth 100000 in
theorem refStmts_bad (d n:Int) (b:List UInt8) (v:Value) (w:World) (hr:RdB w w.heap.size v b) (h:d < 0 ∨ 2 < d ∨ n < 0) :
  Calls Tryz.prog 8 #[.int .i64 d,.int .i64 n,v] w (StmtsP w [] 1):=by
 obtain ⟨A,c,rfl,hc⟩:=hr.form
 by_cases h1:d < 0
 ·go_enter Tryz.func8, Tryz.ntmps8
  go_wp2_with fail
  go_ret2
  exact ⟨_,rfl,StAt.nil _ _,Below.refl _ _⟩
 by_cases h2:2 < d
 ·have e1:decide (d < 0)=false:=by simpa using h1
  go_enter Tryz.func8, Tryz.ntmps8
  go_wp2_with fail
  go_ret2
  exact ⟨_,rfl,StAt.nil _ _,Below.refl _ _⟩
 have h3:n < 0:=by omega
 have e1:decide (d < 0)=false:=by simpa using h1
 have e2:decide (2 < d)=false:=by simpa using h2
 go_enter Tryz.func8, Tryz.ntmps8
 go_wp2_with fail
 go_ret2
 exact ⟨_,rfl,StAt.nil _ _,Below.refl _ _⟩
set_option maxHeartbeats 2000000 in
set_option maxRecDepth 100000 in
theorem refStmts_over (d n:Int) (b:List UInt8) (v:Value) (w:World) (hr:RdB w w.heap.size v b) (hl:b.length ≤ 1000000) (hd1:0 ≤ d) (hd2:d ≤ 2) (hn:0 ≤ n) (h:65536 < b.length ∨ 65536 - (b.length:Int) < n) :
  Calls Tryz.prog 8 #[.int .i64 d,.int .i64 n,v] w (StmtsP w [] 7):=by
 obtain ⟨A,c,rfl,hc⟩:=hr.form
 have e1:decide (d < 0)=false:=by simp;omega
 have e2:decide (2 < d)=false:=by simp;omega
 have e3:decide (n < 0)=false:=by simp;omega
 by_cases h1:65536 < b.length
 ·have e4:(65536:Int) < (b.length:Int):=by omega
  clear h
  go_enter Tryz.func8, Tryz.ntmps8
  go_wp2_with fail
  go_ret2
  exact ⟨_,rfl,StAt.nil _ _,Below.refl _ _⟩
 ·have e4:decide ((65536:Int) < (b.length:Int))=false:=by simp;omega
  have e5:65536 - (b.length:Int) < n:=by omega
  have hw:IntKind.i64.wrap (65536 - (b.length:Int))=65536 - (b.length:Int):=IntWalk.i64_in _ (by omega)
  clear h h1
  go_enter Tryz.func8, Tryz.ntmps8
  go_wp2_with fail
  go_ret2
  exact ⟨_,rfl,StAt.nil _ _,Below.refl _ _⟩
set_option maxHeartbeats 2000000 in
set_option maxRecDepth 100000 in
theorem refStmts_none (d n:Int) (v:Value) (w:World) (hr:RdB w w.heap.size v []) (hd1:0 ≤ d) (hd2:d ≤ 2) (hn:0 ≤ n) (h:n ≤ 65536) :
  Calls Tryz.prog 8 #[.int .i64 d,.int .i64 n,v] w (StmtsP w [] 0):=by
 obtain ⟨A,c,rfl,hc⟩:=hr.form
 have e1:decide (d < 0)=false:=by simp;omega
 have e2:decide (2 < d)=false:=by simp;omega
 have e3:decide (n < 0)=false:=by simp;omega
 have e4:decide ((65536:Int) < n)=false:=by simp;omega
 go_enter Tryz.func8, Tryz.ntmps8
 go_wp2_with fail
 go_ret2
 exact ⟨_,rfl,StAt.nil _ _,Below.refl _ _⟩
end Go.Proofs.YtagplldaooipmaaGreatDoor
/- The reference's layer 17: Stmts, the whole. -/
namespace Go.Proofs.YtagplldaooipmaaGreatDoor
open Go.RowKit
set_option maxHeartbeats 16000000 in
set_option maxRecDepth 100000 in
theorem refStmts_main (d:Int) (n:Nat) (b:List UInt8) (v:Value) (w:World) (hr:RdB w w.heap.size v b) (hd1:0 ≤ d) (hd2:d ≤ 2) (h0:b ≠ []) (h1:n + b.length ≤ 65536) (l:List Rp) (hsw:piecesR (rpX d) b.length n b=l) :
    Calls Tryz.prog 8 #[.int .i64 d,.int .i64 n,v] w (StmtsP w (orgS n :: l.map (stR (labelsR l))) 0):=by
  have hpos:=List.length_pos_iff.2 h0
  have e1:decide (d < 0)=false:=by simp;omega
  have e2:decide (2 < d)=false:=by simp;omega
  have e3:decide ((n:Int) < 0)=false:=by simp
  have e4:decide ((65536:Int) < (b.length:Int))=false:=by simp;omega
  have hw:IntKind.i64.wrap (65536 - (b.length:Int))=65536 - (b.length:Int):=IntWalk.i64_in _ (by omega)
  have e5:decide (65536 - (b.length:Int) < (n:Int))=false:=by simp;omega
  have e6:((b.length:Int) == 0)=false:=by rw [beq_eq_false_iff_ne];omega
  have HSW:=Lib.hid (Pieces_any d n b v w hr (by omega))
  have HPL:=Lib.hid (pieces_in d b.length n b)
  have HJA:=Lib.hid (pieces_all (rpX d) (fun r=>(r.jumps=true → r.args ≠ [])∧(∀ a ∈ r.args,a.e.sub = [])∧r.b < 256∧r.tn < 65536) (fun pl b _=>rpX_jargs d pl b) b.length n b)
  have HFW:=Lib.hid (pieces_all (rpX d) (fun r=>r.args.length ≤ 2) (fun pl b _=>rpX_few d ⟨hd1,hd2⟩ pl b) b.length n b)
  have HDB:=Lib.hid (pieces_all (rpX d) (fun r=>r.op = [] → r.jumps=false) (fun pl b _=>rpX_db d ⟨hd1,hd2⟩ pl b) b.length n b)
  have hll:=pieces_few (rpX d) b.length n b
  rw [hsw] at HSW HPL HJA HDB HFW hll
  have hmf:=labelsR_few l
  obtain ⟨A,c,rfl,hc⟩:=hr.form
  have hc':=hc
  clear hr hsw hd1 hd2 h0
  go_enter Tryz.func8, Tryz.ntmps8
  go_wp2_with fail
  refine (HSW.out).mono ?_
  rintro e w1 ⟨lv,vs,rfl,hpc,hb1⟩
  have HLB:=Lib.hid (reflabels_any l vs lv w.heap.size w1 hpc (by omega))
  have HPC:=Lib.hid hpc
  obtain ⟨lA,lc,rfl,hlc,hlm,hlr⟩:=own_slice hpc.2.1 (by omega)
  have HLR1:=Lib.hid hlr
  have HB1:=Lib.hid hb1
  clear hpc hlr hlm hb1 HSW
  go_wp2_with fail
  refine (HLB.out).mono ?_
  rintro e w2 ⟨mv,rfl,hmo,hb2⟩
  obtain ⟨mA,mc,rfl,hmc,hmm,_⟩:=own_slice hmo (by omega)
  have P2:=Lib.hid (HPC.out.below hb2)
  have RM:=Lib.hid (Rd.of_own hmo)
  have B2:=Lib.hid (bthen HB1.out hb2)
  have HLR:Hid (0 < l.length → ∃ G,lA=some ⟨G,0,none⟩∧G < w2.heap.size):=Lib.hid (fun h=>by obtain ⟨G,a1,a2,a3,_⟩:=HLR1.out h;exact ⟨G,a1,Nat.lt_of_lt_of_le a3 hb2.size⟩)
  have HVL:=Lib.hid P2.out.1
  clear hmo hb2 HPC HB1 HLB HLR1 hmm
  generalize labelsR l=M at *
  have hnn:n ≤ 65535:=by omega
  have hw2:IntKind.u16.wrap (n:Int)=(n:Int):=IntWalk.u16_in _ (by omega)
  have HM:=Lib.hid (fun m W=>refnum_any m W)
  have HHS:=Lib.hid (fun (x:Nat) W (hW:Below w2.heap.size w2 W)=>refhas_any M x (.slice mA M.length mc) W ((RM.out.below hW).more hW.size) (by omega))
  go_wp2_with fail
  refine (HM.out n _).mono ?_
  rintro e w3 ⟨rfl,hb3⟩
  go_wp2_with fail
  have hz3:=hb3.size
  have hz2:=B2.out.size
  have B4:=Lib.hid ((hb3.alloc hz3 (.cells (arCells (numA n) nilV).toArray 41)).alloc (by simp;omega) (.cells (stCells (orgS n) (.slice (some ⟨w3.heap.size,0,none⟩) 1 1)).toArray 31))
  have S4:Hid (StOwnR ((w3.alloc (.cells (arCells (numA n) nilV).toArray 41)).alloc (.cells (stCells (orgS n) (.slice (some ⟨w3.heap.size,0,none⟩) 1 1)).toArray 31)) w2.heap.size w.heap.size (.slice (some ⟨w3.heap.size + 1,0,none⟩) 1 1) [orgS n] [.slice (some ⟨w3.heap.size,0,none⟩) 1 1]):=Lib.hid (by
    refine ⟨rfl,?_,fun i hi=>?_⟩
    · have h:=World.ownsRow_lit (base:=(w3.alloc (.cells (arCells (numA n) nilV).toArray 41)).heap.size) (e:=31) (size:=4) (w3.alloc (.cells (arCells (numA n) nilV).toArray 41)) (stCells (orgS n) (.slice (some ⟨w3.heap.size,0,none⟩) 1 1)).toArray 1 (Nat.le_refl _) (by unfold maxLen;omega) rfl
      have h2:=own_more (base':=w2.heap.size) h (by simp;omega)
      simpa [rowV] using h2
    · simp only [List.length_singleton] at hi
      obtain rfl:i=0:=by omega
      have h:=ArgRow.of_own ((rowA_new w3 (numA n)).alloc (.cells (stCells (orgS n) (.slice (some ⟨w3.heap.size,0,none⟩) 1 1)).toArray 31))
      rcases h with ⟨h,_⟩ | ⟨g,cc,cur,h1,h2,h3,h4⟩
      · simp at h
      · injection h1 with h1 _ h1c
        injection h1 with h1
        injection h1 with h1 _ _
        subst h1 h1c
        exact .inr ⟨w3.heap.size,1,cur,rfl,⟨by omega,h2.2,by simp [Value.ownBlock]⟩,h3,h4⟩)
  clear hb3 hz3
  go_loopw [10,11] (fun v i wr=>∃ (k:Nat) (us:List Value),k ≤ l.length∧i=.int .i64 k∧StOwnR wr w2.heap.size w.heap.size v (orgS n :: (l.take k).map (stR M)) us∧Below w2.heap.size w2 wr) (fun _ i _=>l.length - (intOf i).toNat)
  case atStart=>exact ⟨0,_,Nat.zero_le _,rfl,S4.out,B4.out⟩
  case round=>
    obtain ⟨k,us,hk,rfl,hst,hbw⟩:=hrel
    obtain ⟨vA,vc,rfl,hvc,hvm,hvr⟩:=own_slice hst.2.1 (by omega)
    have hus:us.length=k + 1:=by rw [hst.1];simp;omega
    have hsl:(orgS n :: (l.take k).map (stR M)).length=k + 1:=by simp;omega
    rw [hsl] at hst hvc hvm hvr ⊢
    have KST:=Lib.hid hst
    have KBW:=Lib.hid hbw
    have hzr:=hbw.size
    have HVB:Hid (∀ g,(Value.slice vA (k + 1) vc).ownBlock=some g → w2.heap.size ≤ g∧g < wr.heap.size):=Lib.hid (fun g hg=>by
      exact hst.2.1.lt g hg)
    clear hst hbw hvm hvr
    by_cases hlt:k < l.length
    · obtain ⟨G,rfl,hG⟩:=HLR.out (by omega)
      obtain ⟨aA,ac,hvk,hac,ham,c0,c1,c2,c3,c4,c5,c6⟩:=rp_cells P2.out k hlt (KBW.out.block G hG)
      have HAR:Hid (ArgRow wr (fun g=>w.heap.size ≤ g∧g < w2.heap.size) (.slice aA l[k].args.length ac) l[k].args):=Lib.hid (by
        have h:=P2.out.2.2 k hlt
        rw [hvk] at h
        exact h.keep (fun g hg=>KBW.out.block g hg.2.1) (fun g hg=>⟨hg.1,hg.2.1⟩))
      have HJ:=Lib.hid (HJA.out _ (List.getElem_mem hlt))
      have HD:=Lib.hid (HDB.out _ (List.getElem_mem hlt))
      have HP:=Lib.hid (HPL.out _ (List.getElem_mem hlt))
      have HW:=Lib.hid (HFW.out _ (List.getElem_mem hlt))
      have HROW:Hid (orgS n :: (l.take (k + 1)).map (stR M)=(orgS n :: (l.take k).map (stR M)) ++ [stR M l[k]]):=Lib.hid (by rw [List.take_succ_eq_append_getElem hlt,List.map_append];rfl)
      have hlt':(k:Int) < (l.length:Int):=by omega
      have i0:(0:Int) ≤ (k:Int):=by omega
      clear hvk ham
      generalize l[k]=r at *
      obtain ⟨pl,size,op,args,j,tn,bb⟩:=r
      simp only at c0 c1 c2 c3 c4 c5 c6 hac HAR HJ HD HP HW
      have hGr:G < wr.heap.size:=Nat.lt_of_lt_of_le hG hzr
      have hM0:Hid (MidS w wr (.slice vA (k + 1) vc) [] false op args (wr.alloc (.cells #[.string ⟨#[]⟩,.bool false,.string ⟨op.toArray⟩,.slice aA args.length ac] 31)).drew):=Lib.hid (by
        refine ⟨_,heap_alloc_new wr _,HAR.out.keep (fun g hg=>Below.heap_alloc _ _ _ (by omega)) (fun g hg=>⟨hg.1,by simp;omega,fun h=>?_,by omega⟩),((Below.refl _ _).alloc (Nat.le_refl _) _).drew⟩
        have:=HVB.out g h
        omega)
      go_wp2_with fail
      go_region_held3 (fun w'=>w'.cell? ⟨G,k * 7 + 2,none⟩=some (.string ⟨op.toArray⟩)∧w'.cell? ⟨G,k * 7 + 3,none⟩=some (.slice aA args.length ac))
        (first | (go_keep;done) | (refine ⟨?_,?_⟩ <;> first | assumption | go_keep)) (fail)
      go_upto_if 69 with (fail)
      go_cut [69] (fun _ wx=>MidS w wr (.slice vA (k + 1) vc) [] false (if op = [] then sDB else op) (if op = [] then [numA bb] else args) wx)
      case first=>
        by_cases ho:op = []
        · subst ho
          have hbb:bb < 256:=HJ.out.2.2.1
          have cG6:=cell_of_heap (heap_alloc_new wr (.cells #[.string ⟨#[]⟩,.bool false,.string ⟨#[]⟩,.slice aA args.length ac] 31)) (i:=0)
          clear cG6
          go_wp2_with fail
          refine (HM.out bb _).mono ?_
          rintro e w5 ⟨rfl,hb5⟩
          have C5:=Lib.hid ((hb5.block wr.heap.size (by simp)).trans (heap_alloc_new wr (.cells #[.string ⟨#[]⟩,.bool false,.string ⟨#[]⟩,.slice aA args.length ac] 31)))
          have B5:=Lib.hid (bthen (show Below wr.heap.size wr (wr.alloc (.cells #[.string ⟨#[]⟩,.bool false,.string ⟨#[]⟩,.slice aA args.length ac] 31)).drew from ((Below.refl _ _).alloc (Nat.le_refl _) _).drew) hb5)
          have hz5:wr.heap.size < w5.heap.size:=lt_of_heap C5.out
          obtain ⟨⟨s0,s1,s2,s3⟩,g0,g1,g2,g3⟩:=four C5.out
          clear hb5
          go_wp2_with fail
          go_meet
          rw [if_pos trivial,if_pos trivial]
          have hn5:=rowA_new ((((w5.setCell ⟨wr.heap.size,0,none⟩ (.string ⟨#[]⟩)).setCell ⟨wr.heap.size,1,none⟩ (.bool false)).setCell ⟨wr.heap.size,2,none⟩ (.string ⟨#[68,66]⟩)).setCell ⟨wr.heap.size,3,none⟩ (.slice (some ⟨w5.heap.size,0,none⟩) 1 1)) (numA bb)
          have hzz:((((w5.setCell ⟨wr.heap.size,0,none⟩ (.string ⟨#[]⟩)).setCell ⟨wr.heap.size,1,none⟩ (.bool false)).setCell ⟨wr.heap.size,2,none⟩ (.string ⟨#[68,66]⟩)).setCell ⟨wr.heap.size,3,none⟩ (.slice (some ⟨w5.heap.size,0,none⟩) 1 1)).heap.size=w5.heap.size:=by simp
          have hn6:=ArgRow.of_own hn5
          rw [hzz] at hn6
          refine ⟨.slice (some ⟨w5.heap.size,0,none⟩) 1 1,(Below.heap_alloc _ _ _ (by rw [hzz];exact hz5)).trans (heap_set (i:=3) _ (heap_set (i:=2) _ (heap_set (i:=1) _ (heap_set (i:=0) _ C5.out)))),hn6.keep (fun _ _=>rfl) (fun g hg=>⟨by omega,hg.2,fun h=>?_,by omega⟩),((((B5.out.setCell (Nat.le_refl _) _).setCell (Nat.le_refl _) _).setCell (Nat.le_refl _) _).setCell (Nat.le_refl _) _).alloc (by rw [hzz];omega) _⟩
          have:=(HVB.out g h).2
          omega
        · have o1:op.isEmpty=false:=by simpa using ho
          go_wp2_with fail
          all_goals (
            first
              | exact absurd (show op.isEmpty=true by assumption) (by rw [o1];exact Bool.false_ne_true)
              | (go_meet
                 rw [if_neg ho,if_neg ho]
                 exact hM0.out))
      case rest=>
        obtain ⟨wx,rfl⟩:∃ x:World,x=wc:=⟨_,rfl⟩
        obtain ⟨av,hS1,hA1,hB1⟩:=hcut
        have C1:=Lib.hid hS1
        have A1:=Lib.hid hA1
        have BX1:=Lib.hid hB1
        have hSx:wr.heap.size < wx.heap.size:=lt_of_heap hS1
        have d4:=(hB1.cell (p:=⟨G,k * 7 + 4,none⟩) hGr).trans c4
        have d5:=(hB1.cell (p:=⟨G,k * 7 + 5,none⟩) hGr).trans c5
        have hGx:G < wx.heap.size:=by omega
        clear hS1 hA1 hB1 hM0
        go_upto_region 16 with (fail)
        go_cut [93] (fun t wy=>t=.bool (j && decide (tn ∈ M))∧wy=wx)
        case first=>
          cases j with
          | false=>
            go_wp2_with fail
            go_meet
            exact ⟨rfl,rfl⟩
          | true=>
            go_wp2_with fail
            refine (HHS.out tn _ ((KBW.out.trans (BX1.out.mono hzr)))).mono ?_
            rintro e w6 ⟨rfl,rfl⟩
            go_wp2_with fail
            go_meet
            exact ⟨rfl,rfl⟩
        case rest=>
          obtain ⟨rfl,hwc⟩:=hcut
          subst hwc
          obtain ⟨wx,rfl⟩:∃ x:World,x=wc:=⟨_,rfl⟩
          go_upto_if 93 with (fail)
          go_cut [93] (fun _ wz=>MidS w wr (.slice vA (k + 1) vc) [] false (if op = [] then sDB else op) (if j=true∧tn ∈ M then (if op = [] then [numA bb] else args).dropLast ++ [nameA (labelD tn)] else (if op = [] then [numA bb] else args)) wz)
          case first=>
            by_cases hq:j=true∧tn ∈ M
            · have hqq:(j && decide (tn ∈ M))=true:=by rw [hq.1,decide_eq_true hq.2];rfl
              rw [hqq]
              have HQ:=Lib.hid hq
              have hargs:args ≠ []:=HJ.out.1 hq.1
              have hop:op ≠ []:=fun h=>by have:=HD.out h;rw [hq.1] at this;cases this
              clear hq hqq
              have C1b:=C1.out
              obtain ⟨aA2,ac2,rfl,hac2,ham2⟩:=A1.out.form
              have A1b:=A1.out
              simp only [if_neg hop] at A1b hac2 ham2 C1 C1b
              obtain ⟨init,y,rfl⟩:∃ init y,args=init ++ [y]:=⟨args.dropLast,args.getLast hargs,(List.dropLast_concat_getLast hargs).symm⟩
              simp only [List.length_append,List.length_singleton] at hac2 ham2 C1b A1b
              obtain ⟨⟨s0,s1,s2,s3⟩,g0,g1,g2,g3⟩:=four C1b
              have HOP:=Lib.hid hop
              have HC1b:=Lib.hid C1b
              have hin:init.length ≤ 1:=by have:=HW.out;simp at this;omega
              have htn:=HJ.out.2.2.2
              have HLB:=Lib.hid (fun W=>refLabel_any tn htn W)
              have hO:=Lib.hid (World.ownsRow_lit (base:=wx.heap.size) (e:=41) (size:=8) wx #[] 0 (Nat.le_refl _) (by unfold maxLen;omega) rfl)
              have hR:Hid (Rd (wx.alloc (.cells #[] 41)) wx.heap.size (.slice aA2 (init.length + 1) ac2) (init.length + 1) (rowA (init ++ [y]))):=Lib.hid (by have h:=(ArgRow.rd (B:=wx.heap.size) A1b (fun g hg=>hg.2.1)).below ((Below.refl wx.heap.size wx).alloc (Nat.le_refl _) (.cells #[] 41));simpa using h)
              have hRL:=Lib.hid (show (rowA (init ++ [y])).length=(init.length + 1) * 8 by rw [rowA_len];simp)
              have hw1:IntKind.i64.wrap ((init.length:Int) + 1 - 1)=(init.length:Int):=by rw [IntWalk.i64_in _ (by omega)];omega
              have hw3:(init.length:Int) < (init.length:Int) + 1:=by omega
              clear hargs hop C1b A1b htn
              go_wp2_with (at_builtin;go_loud (refine wpList_append_to _ rfl (.tmp 94) (.tmp 96) 29 rfl wx.heap.size 41 _ 8 104 Tryz.underlying29 info_ar rfl (by omega) hO.out rfl hR.out rfl hRL.out (rowA_one _) (by omega) (by omega) (by simp) ?_;intro v7 w7 hown7 hbel7 hg7 hv7;rw [show 0 + (init.length + 1)=init.length + 1 by omega] at hown7;obtain ⟨A7,c7,rfl,hc7,hm7,_⟩:=own_slice hown7 (by omega);have O7:=Lib.hid hown7;have B7:=Lib.hid (((Below.refl wx.heap.size wx).alloc (Nat.le_refl _) (.cells #[] 41)).trans hbel7);have d57:=(hbel7.cell (p:=⟨G,k * 7 + 5,none⟩) hGx).trans ((((Below.refl wx.heap.size wx).alloc (Nat.le_refl _) (.cells #[] 41)).cell (p:=⟨G,k * 7 + 5,none⟩) hGx).trans d5);have hG7:G < w7.heap.size:=Nat.lt_of_lt_of_le hGx B7.out.size;clear hown7 hbel7 hg7 hv7 hO hR))
              have AR7:ArgRow w7 (fun g=>wx.heap.size ≤ g∧g < w7.heap.size) (.slice A7 (init.length + 1) c7) (init ++ [y]):=by
                have h:=O7.out
                have h2:=ArgRow.of_own (l:=init ++ [y]) (v:=.slice A7 (init.length + 1) c7) (base:=wx.heap.size) (w:=w7) (by simpa using h)
                exact h2
              obtain ⟨gA,cA,cur,hv1,⟨t1,t2⟩,hcur,hcA,hcells,hnew⟩:=AR7.last
              injection hv1 with hv1 _ hv2
              subst hv1 hv2
              have HCU:=Lib.hid hcur
              have HCE:=Lib.hid hcells
              have HNW:=Lib.hid hnew
              have CS7:=Lib.hid ((B7.out.block wr.heap.size hSx).trans HC1b.out)
              clear AR7 hcur hcells hnew O7 s0 s1 s2 s3 g0 g1 g2 g3
              generalize hlb:labelD tn=lb at HLB ⊢
              have HLE:=Lib.hid hlb
              clear hlb
              refine (HLB.out _).mono ?_
              rintro e w8 ⟨rfl,hb8⟩
              have hG8:=Lib.hid ((hb8.block gA t2).trans HCU.out)
              have CS8:=Lib.hid ((hb8.block wr.heap.size (lt_of_heap CS7.out)).trans CS7.out)
              have B8:=Lib.hid (B7.out.trans (hb8.mono (Nat.le_trans (Nat.le_of_lt (Nat.lt_of_le_of_lt (Nat.le_refl _) (Nat.lt_of_le_of_lt t1 t2))) (Nat.le_refl _))))
              have hS8:wr.heap.size < w8.heap.size:=lt_of_heap CS8.out
              have hg8:gA < w8.heap.size:=lt_of_heap hG8.out
              have hSA:wr.heap.size < gA:=by omega
              have f0:=frozen_of_heap (i:=init.length * 8) hG8.out
              have a0:=(cell_of_heap (i:=init.length * 8) hG8.out).trans (HCE.out 0 _ rfl)
              have f1:=frozen_of_heap (i:=init.length * 8 + 1) hG8.out
              have a1:=(cell_of_heap (i:=init.length * 8 + 1) hG8.out).trans (HCE.out 1 _ rfl)
              have f2:=frozen_of_heap (i:=init.length * 8 + 2) hG8.out
              have a2:=(cell_of_heap (i:=init.length * 8 + 2) hG8.out).trans (HCE.out 2 _ rfl)
              have f3:=frozen_of_heap (i:=init.length * 8 + 3) hG8.out
              have a3:=(cell_of_heap (i:=init.length * 8 + 3) hG8.out).trans (HCE.out 3 _ rfl)
              have f4:=frozen_of_heap (i:=init.length * 8 + 4) hG8.out
              have a4:=(cell_of_heap (i:=init.length * 8 + 4) hG8.out).trans (HCE.out 4 _ rfl)
              have f5:=frozen_of_heap (i:=init.length * 8 + 5) hG8.out
              have a5:=(cell_of_heap (i:=init.length * 8 + 5) hG8.out).trans (HCE.out 5 _ rfl)
              have f6:=frozen_of_heap (i:=init.length * 8 + 6) hG8.out
              have a6:=(cell_of_heap (i:=init.length * 8 + 6) hG8.out).trans (HCE.out 6 _ rfl)
              have f7:=frozen_of_heap (i:=init.length * 8 + 7) hG8.out
              have a7:=(cell_of_heap (i:=init.length * 8 + 7) hG8.out).trans (HCE.out 7 _ rfl)
              have y3:=cell_of_heap (i:=3) CS8.out
              have e3:=frozen_of_heap (i:=3) CS8.out
              simp at y3 e3 f0 f1 f2 f3 f4 f5 f6 f7
              have hz78:=hb8.size
              clear hb8 CS7 HCU B7
              go_wp2_with fail
              go_meet
              have HGW:=Lib.hid (show ((((((((w8.setCell ⟨gA,init.length * 8,none⟩ (.string ⟨#[]⟩)).setCell ⟨gA,init.length * 8 + 1,none⟩ (.string ⟨#[]⟩)).setCell ⟨gA,init.length * 8 + 2,none⟩ (.bool false)).setCell ⟨gA,init.length * 8 + 3,none⟩ (.bool false)).setCell ⟨gA,init.length * 8 + 4,none⟩ (.string ⟨#[110]⟩)).setCell ⟨gA,init.length * 8 + 5,none⟩ (.int .u16 0)).setCell ⟨gA,init.length * 8 + 6,none⟩ (.string ⟨lb.toArray⟩)).setCell ⟨gA,init.length * 8 + 7,none⟩ (.slice none 0 0)).heap[gA]? = some (.cells (set8 cur (init.length * 8) (nameA lb)) 41 (0,0)) from (heap_set (i:=init.length * 8 + 7) (.slice none 0 0) (heap_set (i:=init.length * 8 + 6) (.string ⟨lb.toArray⟩) (heap_set (i:=init.length * 8 + 5) (.int .u16 0) (heap_set (i:=init.length * 8 + 4) (.string ⟨#[110]⟩) (heap_set (i:=init.length * 8 + 3) (.bool false) (heap_set (i:=init.length * 8 + 2) (.bool false) (heap_set (i:=init.length * 8 + 1) (.string ⟨#[]⟩) (heap_set (i:=init.length * 8) (.string ⟨#[]⟩) hG8.out)))))))))
              have hS9:((((((((w8.setCell ⟨gA,init.length * 8,none⟩ (.string ⟨#[]⟩)).setCell ⟨gA,init.length * 8 + 1,none⟩ (.string ⟨#[]⟩)).setCell ⟨gA,init.length * 8 + 2,none⟩ (.bool false)).setCell ⟨gA,init.length * 8 + 3,none⟩ (.bool false)).setCell ⟨gA,init.length * 8 + 4,none⟩ (.string ⟨#[110]⟩)).setCell ⟨gA,init.length * 8 + 5,none⟩ (.int .u16 0)).setCell ⟨gA,init.length * 8 + 6,none⟩ (.string ⟨lb.toArray⟩)).setCell ⟨gA,init.length * 8 + 7,none⟩ (.slice none 0 0)).heap[wr.heap.size]? = w8.heap[wr.heap.size]?:=by
                rw [Below.heap_setCell _ _ _ _ (by simp;omega),Below.heap_setCell _ _ _ _ (by simp;omega),Below.heap_setCell _ _ _ _ (by simp;omega),Below.heap_setCell _ _ _ _ (by simp;omega),Below.heap_setCell _ _ _ _ (by simp;omega),Below.heap_setCell _ _ _ _ (by simp;omega),Below.heap_setCell _ _ _ _ (by simp;omega),Below.heap_setCell _ _ _ _ (by simp;omega)]
              have hz9:((((((((w8.setCell ⟨gA,init.length * 8,none⟩ (.string ⟨#[]⟩)).setCell ⟨gA,init.length * 8 + 1,none⟩ (.string ⟨#[]⟩)).setCell ⟨gA,init.length * 8 + 2,none⟩ (.bool false)).setCell ⟨gA,init.length * 8 + 3,none⟩ (.bool false)).setCell ⟨gA,init.length * 8 + 4,none⟩ (.string ⟨#[110]⟩)).setCell ⟨gA,init.length * 8 + 5,none⟩ (.int .u16 0)).setCell ⟨gA,init.length * 8 + 6,none⟩ (.string ⟨lb.toArray⟩)).setCell ⟨gA,init.length * 8 + 7,none⟩ (.slice none 0 0)).heap.size=w8.heap.size:=by simp
              have hge:wr.heap.size ≤ gA:=Nat.le_of_lt hSA
              have hz78:w7.heap.size ≤ w8.heap.size:=hz78
              rw [if_pos HQ.out,if_neg HOP.out,if_neg HOP.out,List.dropLast_concat,HLE.out]
              refine ⟨.slice (some ⟨gA,0,none⟩) (init.length + 1) c7,heap_set (i:=3) _ (hS9.trans CS8.out),?_,(((((((((BX1.out.trans (B8.out.mono (Nat.le_of_lt hSx))).setCell hge _).setCell hge _).setCell hge _).setCell hge _).setCell hge _).setCell hge _).setCell hge _).setCell hge _).setCell (Nat.le_refl _) _⟩
              have hrow:=HNW.out _ (nameA lb) HGW.out
              refine hrow.keep (fun g hg=>Below.heap_setCell _ _ _ g (by simp;omega)) (fun g hg=>⟨by omega,by simp;omega,fun h=>?_,by omega⟩)
              have:=(HVB.out g h).2
              omega
            · have hq2:(j && decide (tn ∈ M))=false:=by simpa using hq
              rw [hq2]
              go_wp2_with fail
              go_meet
              rw [if_neg hq]
              exact ⟨av,C1.out,A1.out,BX1.out⟩
          case rest=>
            obtain ⟨wy,rfl⟩:∃ x:World,x=wc:=⟨_,rfl⟩
            obtain ⟨av2,hS2,hA2,hB2⟩:=hcut
            have HEQ:Hid (stR M ⟨pl,size,op,args,j,tn,bb⟩=⟨if pl ∈ M then labelD pl else [],decide (pl ∈ M),if op = [] then sDB else op,if j=true∧tn ∈ M then (if op = [] then [numA bb] else args).dropLast ++ [nameA (labelD tn)] else (if op = [] then [numA bb] else args)⟩):=Lib.hid rfl
            generalize (if op = [] then sDB else op)=op2 at *
            generalize (if j=true∧tn ∈ M then (if op = [] then [numA bb] else args).dropLast ++ [nameA (labelD tn)] else (if op = [] then [numA bb] else args))=args2 at *
            obtain ⟨aA3,ac3,rfl,hac3,ham3⟩:=hA2.form
            have C2:=Lib.hid hS2
            have A2:=Lib.hid hA2
            have BX2:=Lib.hid hB2
            have hSy:wr.heap.size < wy.heap.size:=lt_of_heap hS2
            have d0:=(hB2.cell (p:=⟨G,k * 7,none⟩) hGr).trans c0
            have hGy:G < wy.heap.size:=by omega
            have HSL:=Lib.hid hsl
            have KOW:Hid (wr.ownsRow w2.heap.size 31 4 (.slice vA (k + 1) vc) (k + 1) (rowV stCells (orgS n :: (l.take k).map (stR M)) us)):=Lib.hid (by have h:=KST.out.2.1;rw [hsl] at h;exact h)
            have hpl:pl < 65536:=by have:=HP.out;omega
            have HH:=Lib.hid (HHS.out pl wy (KBW.out.trans (BX2.out.mono hzr)))
            clear hS2 hA2 hB2 hsl C1 A1 BX1 HAR c0 c1 c2 c3 c4 c5 c6 d4 d5
            by_cases hp:pl ∈ M
            · rw [decide_eq_true hp] at HH HEQ
              rw [if_pos hp] at HEQ
              clear hp
              have HLB2:=Lib.hid (fun W=>refLabel_any pl hpl W)
              generalize labelD pl=lb at *
              go_wp2_with fail
              refine HH.out.mono ?_
              rintro e w6 ⟨rfl,rfl⟩
              clear HH
              go_wp2_with fail
              refine (HLB2.out _).mono ?_
              rintro e w8 ⟨rfl,hb8⟩
              have C8:=Lib.hid ((hb8.block wr.heap.size hSy).trans C2.out)
              have BY8:=Lib.hid hb8
              have hS8:wr.heap.size < w8.heap.size:=lt_of_heap C8.out
              have hz8:wy.heap.size ≤ w8.heap.size:=hb8.size
              obtain ⟨⟨s0,s1,s2,s3⟩,g0,g1,g2,g3⟩:=four C8.out
              clear hb8 HLB2 d0
              have BW:=Lib.hid (show Below wr.heap.size wr ((w8.setCell ⟨wr.heap.size,0,none⟩ (.string ⟨lb.toArray⟩)).setCell ⟨wr.heap.size,1,none⟩ (.bool true)) from ((BX2.out.trans (BY8.out.mono (Nat.le_of_lt hSy))).setCell (Nat.le_refl _) _).setCell (Nat.le_refl _) _)
              have hzW:((w8.setCell ⟨wr.heap.size,0,none⟩ (.string ⟨lb.toArray⟩)).setCell ⟨wr.heap.size,1,none⟩ (.bool true)).heap.size=w8.heap.size:=by first | rfl | simp
              have O8:=Lib.hid (show (((w8.setCell ⟨wr.heap.size,0,none⟩ (.string ⟨lb.toArray⟩)).setCell ⟨wr.heap.size,1,none⟩ (.bool true)).alloc (.cells (stCells ⟨lb,true,op2,args2⟩ (.slice aA3 args2.length ac3)).toArray 31)).ownsRow w2.heap.size 31 4 (.slice vA (k + 1) vc) (k + 1) _ from (own_below KOW.out BW.out).alloc _)
              have N8:=Lib.hid (rd_new ((w8.setCell ⟨wr.heap.size,0,none⟩ (.string ⟨lb.toArray⟩)).setCell ⟨wr.heap.size,1,none⟩ (.bool true)) w8.heap.size hzW (stCells ⟨lb,true,op2,args2⟩ (.slice aA3 args2.length ac3)) 31)
              have B8:=Lib.hid (BW.out.alloc BW.out.size (.cells (stCells ⟨lb,true,op2,args2⟩ (.slice aA3 args2.length ac3)).toArray 31))
              have hb8:w2.heap.size ≤ (((w8.setCell ⟨wr.heap.size,0,none⟩ (.string ⟨lb.toArray⟩)).setCell ⟨wr.heap.size,1,none⟩ (.bool true)).alloc (.cells (stCells ⟨lb,true,op2,args2⟩ (.slice aA3 args2.length ac3)).toArray 31)).heap.size:=Nat.le_trans hzr B8.out.size
              have hU:Hid (ArgRow (((w8.setCell ⟨wr.heap.size,0,none⟩ (.string ⟨lb.toArray⟩)).setCell ⟨wr.heap.size,1,none⟩ (.bool true)).alloc (.cells (stCells ⟨lb,true,op2,args2⟩ (.slice aA3 args2.length ac3)).toArray 31)) (fun g=>w.heap.size ≤ g∧g < (((w8.setCell ⟨wr.heap.size,0,none⟩ (.string ⟨lb.toArray⟩)).setCell ⟨wr.heap.size,1,none⟩ (.bool true)).alloc (.cells (stCells ⟨lb,true,op2,args2⟩ (.slice aA3 args2.length ac3)).toArray 31)).heap.size∧(Value.slice vA (k + 1) vc).ownBlock ≠ some g) (.slice aA3 args2.length ac3) args2):=Lib.hid (A2.out.keep (fun g hg=>(Below.heap_alloc _ _ _ (by rw [hzW];have:=hg.2.1;omega)).trans ((Below.heap_setCell _ _ _ g (by simp;exact hg.2.2.2)).trans ((Below.heap_setCell _ _ _ g (by simp;exact hg.2.2.2)).trans (BY8.out.block g hg.2.1)))) (fun g hg=>⟨hg.1,by have:=hg.2.1;simp;omega,hg.2.2.1⟩))
              go_wp2_with (at_builtin;go_loud (refine wpList_append_to _ rfl (.tmp 128) (.tmp 130) 24 rfl w2.heap.size 31 _ 4 64 Tryz.underlying24 info_st rfl (by omega) O8.out rfl N8.out rfl rfl (stCells_one _ _ rfl) (by omega) (by omega) hb8 ?_;intro v9 w9 hown9 hbel9 hg9 hv9;obtain ⟨A9,c9,rfl,hc9,hm9,_⟩:=own_slice hown9 (by omega);have SN:=Lib.hid (StOwnR.snoc KST.out B8.out hU.out (by rw [HSL.out];exact hown9) hg9 hv9);have BB:=Lib.hid (KBW.out.trans ((B8.out.mono hzr).trans hbel9));clear hown9 hbel9 hg9 hv9 O8 N8 B8 hU BW))
              go_wp2_with fail
              go_roundw
              case rel=>exact ⟨k + 1,_,by omega,by go_num,by rw [HROW.out,HEQ.out];exact SN.out,BB.out⟩
              case measure=>simp [intOf];omega
            · rw [decide_eq_false hp] at HH HEQ
              rw [if_neg hp] at HEQ
              clear hp
              obtain ⟨⟨s0,s1,s2,s3⟩,g0,g1,g2,g3⟩:=four C2.out
              go_wp2_with fail
              refine HH.out.mono ?_
              rintro e w6 ⟨rfl,rfl⟩
              clear HH
              have BW:=Lib.hid (show Below wr.heap.size wr wy from BX2.out)
              have hzW:wy.heap.size=wy.heap.size:=by first | rfl | simp
              have O8:=Lib.hid (show (wy.alloc (.cells (stCells ⟨[],false,op2,args2⟩ (.slice aA3 args2.length ac3)).toArray 31)).ownsRow w2.heap.size 31 4 (.slice vA (k + 1) vc) (k + 1) _ from (own_below KOW.out BW.out).alloc _)
              have N8:=Lib.hid (rd_new wy wy.heap.size hzW (stCells ⟨[],false,op2,args2⟩ (.slice aA3 args2.length ac3)) 31)
              have B8:=Lib.hid (BW.out.alloc BW.out.size (.cells (stCells ⟨[],false,op2,args2⟩ (.slice aA3 args2.length ac3)).toArray 31))
              have hb8:w2.heap.size ≤ (wy.alloc (.cells (stCells ⟨[],false,op2,args2⟩ (.slice aA3 args2.length ac3)).toArray 31)).heap.size:=Nat.le_trans hzr B8.out.size
              have hU:Hid (ArgRow (wy.alloc (.cells (stCells ⟨[],false,op2,args2⟩ (.slice aA3 args2.length ac3)).toArray 31)) (fun g=>w.heap.size ≤ g∧g < (wy.alloc (.cells (stCells ⟨[],false,op2,args2⟩ (.slice aA3 args2.length ac3)).toArray 31)).heap.size∧(Value.slice vA (k + 1) vc).ownBlock ≠ some g) (.slice aA3 args2.length ac3) args2):=Lib.hid (A2.out.keep (fun g hg=>Below.heap_alloc _ _ _ hg.2.1) (fun g hg=>⟨hg.1,by have:=hg.2.1;simp;omega,hg.2.2.1⟩))
              go_wp2_with (at_builtin;go_loud (refine wpList_append_to _ rfl (.tmp 128) (.tmp 130) 24 rfl w2.heap.size 31 _ 4 64 Tryz.underlying24 info_st rfl (by omega) O8.out rfl N8.out rfl rfl (stCells_one _ _ rfl) (by omega) (by omega) hb8 ?_;intro v9 w9 hown9 hbel9 hg9 hv9;obtain ⟨A9,c9,rfl,hc9,hm9,_⟩:=own_slice hown9 (by omega);have SN:=Lib.hid (StOwnR.snoc KST.out B8.out hU.out (by rw [HSL.out];exact hown9) hg9 hv9);have BB:=Lib.hid (KBW.out.trans ((B8.out.mono hzr).trans hbel9));clear hown9 hbel9 hg9 hv9 O8 N8 B8 hU BW))
              go_wp2_with fail
              go_roundw
              case rel=>exact ⟨k + 1,_,by omega,by go_num,by rw [HROW.out,HEQ.out];exact SN.out,BB.out⟩
              case measure=>simp [intOf];omega
    · obtain rfl:k=l.length:=by omega
      have HFIN:Hid (StAt wr (fun g=>w.heap.size ≤ g∧g < wr.heap.size) (.slice vA (l.length + 1) vc) (orgS n :: l.map (stR M))):=Lib.hid (by
        have h:=KST.out
        rw [List.take_length] at h
        refine stat_rows (B:=w2.heap.size) (vs:=us) B2.out.size (by simpa using h.2.1) (by simpa using h.1) (fun i hi=>?_)
        have h3:=(h.2.2 i hi).arAt (fun a ha=>?_)
        · exact h3.keep (fun _ _=>rfl) (fun g hg=>⟨hg.1,hg.2.1⟩)
        · cases i with
          | zero=>simp [orgS] at ha;subst ha;rfl
          | succ i=>
            simp only [List.getElem_cons_succ,List.getElem_map] at ha
            simp only [List.length_cons,List.length_map] at hi
            exact stR_sub M _ (HJA.out _ (List.getElem_mem (by omega))).2.1 a ha)
      have BWF:=Lib.hid (B2.out.trans (KBW.out.mono B2.out.size))
      clear KST KBW
      go_wp2_with fail
      go_ret2
      exact ⟨_,rfl,HFIN.out,BWF.out⟩
end Go.Proofs.YtagplldaooipmaaGreatDoor
/- The reference's layer 17: Stmts, any. -/
namespace Go.Proofs.YtagplldaooipmaaGreatDoor
open Go.RowKit
theorem refStmts_any (d n:Int) (b:List UInt8) (v:Value) (w:World) (hr:RdB w w.heap.size v b) (hl:b.length ≤ 1000000) :
  Calls Tryz.prog 8 #[.int .i64 d,.int .i64 n,v] w (StmtsP w (stmtsD first86D d n b).1 (stmtsD first86D d n b).2):=by
 by_cases h1:d < 0 ∨ 2 < d ∨ n < 0
 ·unfold stmtsD
  rw [if_pos h1]
  exact refStmts_bad d n b v w hr h1
 ·by_cases h2:65536 < b.length ∨ 65536 - (b.length:Int) < n
  ·unfold stmtsD
   rw [if_neg h1,if_pos h2]
   exact refStmts_over d n b v w hr hl (by omega) (by omega) (by omega) h2
  ·by_cases h3:b = []
   ·unfold stmtsD
    rw [if_neg h1,if_neg h2,if_pos h3]
    subst h3
    exact refStmts_none d n v w hr (by omega) (by omega) (by omega) (by simp at h2;omega)
   ·rw [stmtsR_eq d n b (by omega) (by omega) (by omega) (by omega) h3]
    obtain ⟨m,rfl⟩:∃ m:Nat,n=m:=⟨n.toNat,by omega⟩
    unfold stmtsR
    rw [Int.toNat_natCast]
    exact refStmts_main d m b v w hr (by omega) (by omega) h3 (by omega) _ rfl
end Go.Proofs.YtagplldaooipmaaGreatDoor
