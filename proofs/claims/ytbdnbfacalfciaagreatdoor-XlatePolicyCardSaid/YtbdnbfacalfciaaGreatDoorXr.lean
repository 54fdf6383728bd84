/- Xr. -/
import Derived.Test.YtbdnbfacalfciaaGreatDoorXm
import Derived.Test.YtbdnbfacalfciaaGreatDoorXg
import Derived.BigRegion
import Derived.Test.YtbdnbfacalfciaaGreatDoorUb
namespace Go.Proofs.YtbdnbfacalfciaaGreatDoor
set_option maxRecDepth 100000
set_option maxHeartbeats 2000000
open Go.RowKit
theorem lives_any (k:Nat) (w:World) (h:w.cell? ⟨k,3,none⟩=some (.int .i64 31)) :
  Calls Tryz.prog 132 #[.pointer (some ⟨k,0,none⟩),.int .i64 31] w fun e w'=>e=.returned (.bool true)/\w=w':=by
 have e1:(bits BinOp.and IntKind.i64 31 31 != 0)=true:=by decide
 go_enter Tryz.func132, Tryz.ntmps132
 go_wp2_with fail
 go_ret
 exact ⟨rfl,rfl⟩
theorem pair2_any (w:World):Calls Tryz.prog 82 #[.int .u8 2] w fun e w'=>e=.returned (arV (wordA [66,88]) nilV)/\Below w.heap.size w w':=by
 have HW:=LH (fun W=>xword_any [66,88] W)
 have BA:=LH (fun cs=>(Below.refl w.heap.size w).alloc (Nat.le_refl _) (.cells cs 72))
 have e1:bits BinOp.and IntKind.u8 2 3=2:=by decide
 have hix:∀ W,(Instr.index 225 (.agg #[.string ⟨#[67,88]⟩,.string ⟨#[68,88]⟩,.string ⟨#[66,88]⟩,.string ⟨#[83,80]⟩]) (.int .u8 2)).run Tryz.prog W=.ok (.string ⟨#[66,88]⟩) W:=fun W=>by kernel_rfl
 go_enter Tryz.func82, Tryz.ntmps82
 go_wp2_with fail
 refine (HW.out _).mono ?_
 rintro e w1 ⟨rfl,hb⟩
 have hz:=heap_alloc_new w (.cells #[.string ⟨#[]⟩,.string ⟨#[]⟩,.bool false,.bool false,.string ⟨#[]⟩,.int .u16 0,.string ⟨#[]⟩,.slice none 0 0] 72)
 have h1:=(hb.block w.heap.size (by simp)).trans hz
 have c0:=coh (i:=0) h1
 have f0:=foh (i:=0) h1
 have c1:=coh (i:=1) h1
 have f1:=foh (i:=1) h1
 have c2:=coh (i:=2) h1
 have f2:=foh (i:=2) h1
 have c3:=coh (i:=3) h1
 have f3:=foh (i:=3) h1
 have c4:=coh (i:=4) h1
 have f4:=foh (i:=4) h1
 have c5:=coh (i:=5) h1
 have f5:=foh (i:=5) h1
 have c6:=coh (i:=6) h1
 have f6:=foh (i:=6) h1
 have c7:=coh (i:=7) h1
 have f7:=foh (i:=7) h1
 simp at c0 c1 c2 c3 c4 c5 c6 c7 f0 f1 f2 f3 f4 f5 f6 f7
 have HB:=LH ((BA.out _).trans (hb.mono (by simp)))
 have hlt:=loh h1
 clear hz h1 hb HW BA
 unfold arV wordA nilV
 go_wp2_with fail
 exact bodyPost_ret (v:=.agg #[.string ⟨#[66,88]⟩,.string ⟨#[]⟩,.bool false,.bool false,.string ⟨ex0.op.toArray⟩,.int .u16 (ex0.n:Nat),.string ⟨ex0.name.toArray⟩,.slice none 0 0]) (by simp [results,Tryz.results82,go_sem,c0,c1,c2,c3,c4,c5,c6,c7]) rfl ⟨rfl,((((((((HB.out.setCell (Nat.le_refl _) _).setCell (Nat.le_refl _) _).setCell (Nat.le_refl _) _).setCell (Nat.le_refl _) _).setCell (Nat.le_refl _) _).setCell (Nat.le_refl _) _).setCell (Nat.le_refl _) _).setCell (Nat.le_refl _) _)⟩
theorem WrAt.bel {w w':World} {k:Nat} {T:TypeId} {rest:List Value} {l:List St} {v:Value} (h:WrAt w k T rest l v) (hb:Below w.heap.size w w'):WrAt w' k T rest l v:=by
 obtain ⟨h1,vs,h2⟩:=h
 exact ⟨(hb.block k (loh h1)).trans h1,vs,OwnV.far stSub_keep h2 (fun g _ hg=>hb.block g hg) hb.size⟩
theorem kept_any (k:Nat) (op n:Nat) (l:List St) (v:Value) (nm p:List UInt8) (w:World) (h:WrAt w k 124 [.int .u8 op,.int .u16 n,.int .i64 31] l v) (hl:l.length<=1000) :
  Calls Tryz.prog 84 #[.pointer (some ⟨k,0,none⟩),.string ⟨nm.toArray⟩,arV (wordA p) nilV] w (PutW k 124 [.int .u8 op,.int .u16 n,.int .i64 31] (l++[opSt [76,65,72,70],⟨[],false,nm,[wordA p]⟩,opSt [83,65,72,70]]) v w):=by
 have c3:=coh (i:=3) h.1
 simp at c3
 have H:=LH h
 have hlt:=loh h.1
 have c3a:∀ o,(w.alloc o).cell? ⟨k,3,none⟩=some (.int .i64 31):=fun o=>new_keep (o:=o) c3
 have HL:=LH (fun o=>lives_any k (w.alloc o) (c3a o))
 clear h c3 c3a
 unfold arV wordA nilV
 go_enter Tryz.func84, Tryz.ntmps84
 go_wp2_with fail
 refine (HL.out _).mono ?_
 rintro e w1 ⟨rfl,rfl⟩
 have BW1:=LH (((Below.refl w.heap.size w).alloc (Nat.le_refl _) (.cells #[.string ⟨p.toArray⟩,.string ⟨#[]⟩,.bool false,.bool false,.string ⟨ex0.op.toArray⟩,.int .u16 (ex0.n:Nat),.string ⟨ex0.name.toArray⟩,.slice none 0 0] 72)).alloc (by simp) (.cells #[.string ⟨#[76,65,72,70]⟩] 9))
 have hvl:∀ g,v.ownBlock=some g->g<w.heap.size:=by
  obtain ⟨_,vs,h2⟩:=H.out
  exact fun g hg=>(World.ownsRow.lt h2.2.1 g hg).2
 have HA:=LH (xputs_any k 124 [.int .u8 op,.int .u16 n,.int .i64 31] [[76,65,72,70]] l v (w.heap.size+1) _ (H.out.bel BW1.out) (by simp;omega) (by simp) (by omega) (fun e=>by have:=hvl _ e;omega) (fun j hj=>by
  obtain rfl:j=0:=by simpa using hj
  rw [show w.heap.size+1=(w.alloc (.cells #[.string ⟨p.toArray⟩,.string ⟨#[]⟩,.bool false,.bool false,.string ⟨ex0.op.toArray⟩,.int .u16 (ex0.n:Nat),.string ⟨ex0.name.toArray⟩,.slice none 0 0] 72)).heap.size by simp,coh (heap_alloc_new _ _)]
  rfl))
 go_wp2_with fail
 refine HA.out.mono ?_
 rintro e w2 ⟨rfl,v2,hat2,ht2⟩
 have hbn:(w.alloc (.cells #[.string ⟨p.toArray⟩,.string ⟨#[]⟩,.bool false,.bool false,.string ⟨ex0.op.toArray⟩,.int .u16 (ex0.n:Nat),.string ⟨ex0.name.toArray⟩,.slice none 0 0] 72)).heap[w.heap.size]? = _:=heap_alloc_new w _
 have hbx:=(ht2.2.2.1 w.heap.size (by simp;omega) (fun hm=>by rcases mem_kv.1 hm with h1 | h1;omega;have:=hvl _ h1;omega)).trans (((Below.refl _ _).alloc (Nat.le_refl _) _).block w.heap.size (by simp) |>.trans hbn)
 have q0:=coh (i:=0) hbx
 have q1:=coh (i:=1) hbx
 have q2:=coh (i:=2) hbx
 have q3:=coh (i:=3) hbx
 have q4:=coh (i:=4) hbx
 have q5:=coh (i:=5) hbx
 have q6:=coh (i:=6) hbx
 have q7:=coh (i:=7) hbx
 simp at q0 q1 q2 q3 q4 q5 q6 q7
 have HX:=LH hbx
 have HT2:=LH ((Turn.of_below BW1.out).trans ht2)
 have HAT2:=LH hat2
 clear hbn hbx ht2 HA BW1 H HL
 have hk2:k<w2.heap.size:=loh hat2.1
 have hv2:∀ g,v2.ownBlock=some g->g<w2.heap.size:=by
  obtain ⟨_,vs,h2⟩:=HAT2.out
  exact fun g hg=>(World.ownsRow.lt h2.2.1 g hg).2
 have BA:=LH ((Below.refl w2.heap.size w2).alloc (Nat.le_refl _) (.cells (rowA [wordA p]).toArray 72))
 have HP:=LH (fun W (hW:Below (w2.alloc (.cells (rowA [wordA p]).toArray 72)).heap.size (w2.alloc (.cells (rowA [wordA p]).toArray 72)) W)=>xput_any k 124 [.int .u8 op,.int .u16 n,.int .i64 31] (l++[opSt [76,65,72,70]]) v2 nm [wordA p] (.slice (some ⟨w2.heap.size,0,none⟩) 1 1) W (HAT2.out.bel (BA.out.trans (hW.mono (by simp)))) (by simp;omega)
  ((arAt_new w2 [wordA p] 72 (by simp) (fun a ha=>by simp at ha;subst ha;rfl)).keep (fun q hq=>hW.cell (by rw [hq];simp)) (fun g hg=>⟨by omega,by have:=hW.size;simp at this;omega,fun e=>by have:=hv2 _ e;omega⟩)))
 clear hat2
 have HPD:Hid (Calls Tryz.prog 17 #[.pointer (some ⟨k,0,none⟩),.string ⟨nm.toArray⟩,.slice (some ⟨w2.heap.size,0,none⟩) 1 1] (w2.alloc (.cells #[.string ⟨p.toArray⟩,.string ⟨#[]⟩,.bool false,.bool false,.string ⟨ex0.op.toArray⟩,.int .u16 (ex0.n:Nat),.string ⟨ex0.name.toArray⟩,.slice none 0 0] 72)).drew _):=LH (HP.out _ (Below.refl _ _).drew)
 clear HP
 go_wp2_with fail
 go_region_with (first | (refine HPD.out.mono ?_;rintro e w3 ⟨rfl,v3,hat3,ht3⟩))
 have HT3:=LH ((HT2.out.trans ((Turn.refl _ w2).alloc (.cells #[.string ⟨p.toArray⟩,.string ⟨#[]⟩,.bool false,.bool false,.string ⟨ex0.op.toArray⟩,.int .u16 (ex0.n:Nat),.string ⟨ex0.name.toArray⟩,.slice none 0 0] 72)).drew).trans ht3)
 have hv3:∀ g,v3.ownBlock=some g->g<w3.heap.size:=by
  obtain ⟨_,vs,h2⟩:=hat3
  exact fun g hg=>(World.ownsRow.lt h2.2.1 g hg).2
 have hk3:k<w3.heap.size:=loh hat3.1
 have HC:=LH (xputs_any k 124 [.int .u8 op,.int .u16 n,.int .i64 31] [[83,65,72,70]] _ v3 w3.heap.size (w3.alloc (.cells #[.string ⟨#[83,65,72,70]⟩] 9)) (hat3.bel ((Below.refl _ _).alloc (Nat.le_refl _) _)) (by simp;omega) (by simp) (by omega) (fun e=>by have:=hv3 _ e;omega) (fun j hj=>by
  obtain rfl:j=0:=by simpa using hj
  rw [coh (heap_alloc_new _ _)]
  rfl))
 clear HPD ht3 hat3 HT2 HAT2 BA q0 q1 q2 q3 q4 q5 q6 q7 HX
 go_wp2_with fail
 refine HC.out.mono ?_
 rintro e w4 ⟨rfl,v4,hat4,ht4⟩
 have HT4:=LH ((HT3.out.trans ((Turn.refl _ w3).alloc (.cells #[.string ⟨#[83,65,72,70]⟩] 9))).trans ht4)
 clear HT3 HC ht4
 go_wp2_with fail
 go_end0
 refine ⟨rfl,v4,?_,HT4.out⟩
 simp at hat4
 exact hat4
theorem low_inx (k n:Nat) (l:List St) (v:Value) (w:World) (h:WrAt w k 124 [.int .u8 35,.int .u16 n,.int .i64 31] l v) (hl:l.length<=1000) :
  Calls Tryz.prog 44 #[.pointer (some ⟨k,0,none⟩)] w (PutW k 124 [.int .u8 35,.int .u16 n,.int .i64 31] (l++[opSt [76,65,72,70],⟨[],false,[73,78,67],[wordA [66,88]]⟩,opSt [83,65,72,70]]) v w):=by
 have c1:=coh (i:=1) h.1
 simp at c1
 have H:=LH h
 have HP:=LH (fun W=>pair2_any W)
 have e1:bits BinOp.and IntKind.u8 35 15=3:=by decide
 have hlt:=loh h.1
 clear h
 unfold arV wordA nilV at HP
 go_enter Tryz.func44, Tryz.ntmps44
 go_wp2_with fail
 refine (HP.out _).mono ?_
 rintro e w1 ⟨rfl,hb⟩
 have B2:=LH (hb.trans (((Below.refl w1.heap.size w1).alloc (Nat.le_refl _) (.cells #[.string ⟨#[66,88]⟩,.string ⟨#[]⟩,.bool false,.bool false,.string ⟨ex0.op.toArray⟩,.int .u16 (ex0.n:Nat),.string ⟨ex0.name.toArray⟩,.slice none 0 0] 72)).mono hb.size))
 have d1:=(hb.cell (p:=⟨k,1,none⟩) hlt).trans c1
 have d1a:=fun o=>new_keep (o:=o) d1
 have HK:=LH (kept_any k 35 n l v [73,78,67] [66,88] _ (H.out.bel B2.out) hl)
 unfold arV wordA nilV at HK
 clear c1 hb HP d1
 go_wp2_with fail
 refine HK.out.mono ?_
 rintro e w2 ⟨rfl,v2,hat,ht⟩
 have HA:=LH hat
 have HT:=LH ((Turn.of_below B2.out).trans ht)
 clear hat ht HK
 go_wp2_with fail
 refine bodyPost_ret (results_none rfl _ _ _) rfl ?_
 exact ⟨rfl,v2,HA.out,HT.out⟩
theorem ins_inx (w:World) :
  Calls Tryz.prog 13 #[.int .u8 35,.int .u16 0,.int .i64 31] w fun e w'=>∃ v' vs,e=.returned (.tuple #[v',.int .i64 0])/\StOwn w' w.heap.size v' [opSt [76,65,72,70],⟨[],false,[73,78,67],[wordA [66,88]]⟩,opSt [83,65,72,70]] vs/\Below w.heap.size w w':=by
 have HS:=LH (fun W=>size80_any 35 (by decide) W)
 rw [show size80 35=1 by decide] at HS
 have e1:(bits BinOp.and IntKind.u8 35 15)=3:=by decide
 go_enter Tryz.func13, Tryz.ntmps13
 go_wp2_with fail
 refine (HS.out _).mono ?_
 rintro e w1 ⟨rfl,hb⟩
 have HB:=LH hb
 clear hb HS
 have HL:=LH (low_inx w1.heap.size 0 [] (.slice none 0 0) (w1.alloc (.cells #[.slice none 0 0,.int .u8 35,.int .u16 0,.int .i64 31] 124)) ⟨heap_alloc_new w1 _,[],OwnV.nil _ _⟩ (by simp))
 go_wp2_with fail
 refine HL.out.mono ?_
 rintro e w2 ⟨rfl,v2,hat,ht⟩
 have hb2:=ht.below w1.heap.size (fun g hg=>by rcases mem_kv.1 hg with h1 | h1;omega;cases h1) (by simp)
 have B2:=LH (HB.out.trans ((((Below.refl w1.heap.size w1).alloc (Nat.le_refl _) (.cells #[.slice none 0 0,.int .u8 35,.int .u16 0,.int .i64 31] 124)).trans hb2).mono HB.out.size))
 have c0:=coh (i:=0) hat.1
 simp at c0
 have HA:=LH hat
 clear hat ht hb2 HL
 go_wp2_with fail
 go_ret2
 obtain ⟨_,vs,h2⟩:=HA.out
 exact ⟨_,vs,rfl,⟨h2.1,own_base h2.2.1 (by have:=HB.out.size;omega),fun i hi=>stSub_keep _ _ _ _ _ _ (h2.2.2 i hi) (fun _ _=>rfl) (fun g hg=>⟨by have:=HB.out.size;have:=hg.1;omega,hg.2⟩)⟩,B2.out⟩
theorem ins_hlt (w:World) :
  Calls Tryz.prog 13 #[.int .u8 118,.int .u16 0,.int .i64 31] w fun e w'=>∃ v' vs,e=.returned (.tuple #[v',.int .i64 0])/\StOwn w' w.heap.size v' [opSt [72,76,84]] vs/\Below w.heap.size w w':=by
 have HS:=LH (fun W=>size80_any 118 (by decide) W)
 rw [show size80 118=1 by decide] at HS
 go_enter Tryz.func13, Tryz.ntmps13
 go_wp2_with fail
 refine (HS.out _).mono ?_
 rintro e w1 ⟨rfl,hb⟩
 have HB:=LH hb
 clear hb HS
 have BA:=LH (((Below.refl w1.heap.size w1).alloc (Nat.le_refl _) (.cells #[.slice none 0 0,.int .u8 118,.int .u16 0,.int .i64 31] 124)).alloc (by simp) (.cells #[.string ⟨#[72,76,84]⟩] 9))
 have HW:Hid (WrAt ((w1.alloc (.cells #[.slice none 0 0,.int .u8 118,.int .u16 0,.int .i64 31] 124)).alloc (.cells #[.string ⟨#[72,76,84]⟩] 9)) w1.heap.size 124 [.int .u8 118,.int .u16 0,.int .i64 31] [] (.slice none 0 0)):=LH (WrAt.bel (w:=w1.alloc (.cells #[.slice none 0 0,.int .u8 118,.int .u16 0,.int .i64 31] 124)) ⟨heap_alloc_new w1 _,[],OwnV.nil _ _⟩ ((Below.refl _ _).alloc (Nat.le_refl _) _))
 have HL:=LH (xputs_any w1.heap.size 124 [.int .u8 118,.int .u16 0,.int .i64 31] [[72,76,84]] [] (.slice none 0 0) (w1.heap.size+1) _ HW.out (by simp) (by simp) (by omega) (fun e=>by cases e) (fun j hj=>by
  obtain rfl:j=0:=by simpa using hj
  rw [show w1.heap.size+1=(w1.alloc (.cells #[.slice none 0 0,.int .u8 118,.int .u16 0,.int .i64 31] 124)).heap.size by simp,coh (heap_alloc_new _ _)]
  rfl))
 clear HW
 go_wp2_with fail
 refine HL.out.mono ?_
 rintro e w2 ⟨rfl,v2,hat,ht⟩
 have hb2:=ht.below w1.heap.size (fun g hg=>by rcases mem_kv.1 hg with h1 | h1;omega;cases h1) (by simp;omega)
 have B2:=LH (HB.out.trans ((BA.out.trans hb2).mono HB.out.size))
 have c0:=coh (i:=0) hat.1
 simp at c0
 have HA:=LH hat
 clear hat ht hb2 HL BA
 go_wp2_with fail
 go_ret2
 obtain ⟨_,vs,h2⟩:=HA.out
 exact ⟨_,vs,rfl,⟨h2.1,own_base h2.2.1 (by have:=HB.out.size;omega),fun i hi=>stSub_keep _ _ _ _ _ _ (h2.2.2 i hi) (fun _ _=>rfl) (fun g hg=>⟨by have:=HB.out.size;have:=hg.1;omega,hg.2⟩)⟩,B2.out⟩
theorem low_lxi (k n:Nat) (l:List St) (v:Value) (w:World) (h:WrAt w k 124 [.int .u8 33,.int .u16 n,.int .i64 31] l v) (hl:l.length<=1000) :
  Calls Tryz.prog 44 #[.pointer (some ⟨k,0,none⟩)] w (PutW k 124 [.int .u8 33,.int .u16 n,.int .i64 31] (l++[⟨[],false,[77,79,86],[wordA [66,88],numA n]⟩]) v w):=by
 have c1:=coh (i:=1) h.1
 simp at c1
 have H:=LH h
 have HP:=LH (fun W=>pair2_any W)
 have e1:bits BinOp.and IntKind.u8 33 15=1:=by decide
 have hlt:=loh h.1
 clear h
 unfold arV wordA nilV at HP
 go_enter Tryz.func44, Tryz.ntmps44
 go_wp2_with fail
 refine (HP.out _).mono ?_
 rintro e w1 ⟨rfl,hb⟩
 have B2:=LH (hb.trans (((Below.refl w1.heap.size w1).alloc (Nat.le_refl _) (.cells #[.string ⟨#[66,88]⟩,.string ⟨#[]⟩,.bool false,.bool false,.string ⟨ex0.op.toArray⟩,.int .u16 (ex0.n:Nat),.string ⟨ex0.name.toArray⟩,.slice none 0 0] 72)).mono hb.size))
 have d1:=(hb.cell (p:=⟨k,1,none⟩) hlt).trans c1
 have d1a:=fun o=>new_keep (o:=o) d1
 clear c1 hb HP d1
 go_wp2_with fail
 have hbx:=heap_alloc_new w1 (.cells #[.string ⟨#[66,88]⟩,.string ⟨#[]⟩,.bool false,.bool false,.string ⟨ex0.op.toArray⟩,.int .u16 (ex0.n:Nat),.string ⟨ex0.name.toArray⟩,.slice none 0 0] 72)
 have HAT:=LH (H.out.bel B2.out)
 have hPB:=loh hbx
 clear d1a H
 generalize w1.alloc (.cells #[.string ⟨#[66,88]⟩,.string ⟨#[]⟩,.bool false,.bool false,.string ⟨ex0.op.toArray⟩,.int .u16 (ex0.n:Nat),.string ⟨ex0.name.toArray⟩,.slice none 0 0] 72)=w2 at *
 generalize w1.heap.size=PB at *
 have q0:=coh (i:=0) hbx
 have q1:=coh (i:=1) hbx
 have q2:=coh (i:=2) hbx
 have q3:=coh (i:=3) hbx
 have q4:=coh (i:=4) hbx
 have q5:=coh (i:=5) hbx
 have q6:=coh (i:=6) hbx
 have q7:=coh (i:=7) hbx
 have c2:=coh (i:=2) HAT.out.1
 simp at q0 q1 q2 q3 q4 q5 q6 q7 c2
 have hk2:k<w2.heap.size:=loh HAT.out.1
 have hv2:∀ g,v.ownBlock=some g->g<w2.heap.size:=by
  obtain ⟨_,vs,h2⟩:=HAT.out
  exact fun g hg=>(World.ownsRow.lt h2.2.1 g hg).2
 have HV:=LH (fun W=>xvalue_any n W)
 unfold arV numA nilV numE at HV
 have HPP:=LH (fun W3 (h3:Below w2.heap.size w2 W3)=>xput_any k 124 [.int .u8 33,.int .u16 n,.int .i64 31] l v [77,79,86] [wordA [66,88],numA n] (.slice (some ⟨W3.heap.size,0,none⟩) 2 2) (W3.alloc (.cells (rowA [wordA [66,88],numA n]).toArray 72)) (HAT.out.bel (h3.trans (((Below.refl W3.heap.size W3).alloc (Nat.le_refl _) _).mono h3.size))) (by omega)
  ((arAt_new W3 [wordA [66,88],numA n] 72 (by simp) (fun a ha=>by simp at ha;rcases ha with rfl | rfl <;> rfl)).keep (fun _ _=>rfl) (fun g hg=>⟨by have:=h3.size;omega,by simp;omega,fun e=>by have:=hv2 _ e;have:=h3.size;omega⟩)))
 have HPL:Hid (∀ W3,Below w2.heap.size w2 W3->Calls Tryz.prog 17 #[.pointer (some ⟨k,0,none⟩),.string ⟨#[77,79,86]⟩,.slice (some ⟨W3.heap.size,0,none⟩) 2 2] (W3.alloc (.cells #[.string ⟨#[66,88]⟩,.string ⟨#[]⟩,.bool false,.bool false,.string ⟨ex0.op.toArray⟩,.int .u16 (ex0.n:Nat),.string ⟨ex0.name.toArray⟩,.slice none 0 0,.string ⟨#[]⟩,.string ⟨#[]⟩,.bool false,.bool false,.string ⟨(Ex.mk sNum n [] []).op.toArray⟩,.int .u16 ((Ex.mk sNum n [] []).n:Nat),.string ⟨(Ex.mk sNum n [] []).name.toArray⟩,.slice none 0 0] 72)) (PutW k 124 [.int .u8 33,.int .u16 n,.int .i64 31] (l++[⟨[],false,[77,79,86],[wordA [66,88],numA n]⟩]) v (W3.alloc (.cells #[.string ⟨#[66,88]⟩,.string ⟨#[]⟩,.bool false,.bool false,.string ⟨ex0.op.toArray⟩,.int .u16 (ex0.n:Nat),.string ⟨ex0.name.toArray⟩,.slice none 0 0,.string ⟨#[]⟩,.string ⟨#[]⟩,.bool false,.bool false,.string ⟨(Ex.mk sNum n [] []).op.toArray⟩,.int .u16 ((Ex.mk sNum n [] []).n:Nat),.string ⟨(Ex.mk sNum n [] []).name.toArray⟩,.slice none 0 0] 72)))):=LH (fun W3 h3=>HPP.out W3 h3)
 clear hbx hlt HPP
 go_region_with (first | (go_at_call 83;refine (HV.out _).mono ?_;rintro e w3 ⟨rfl,hb3⟩;have r0:=(hb3.cell (p:=⟨PB,0,none⟩) hPB).trans q0;have r1:=(hb3.cell (p:=⟨PB,1,none⟩) hPB).trans q1;have r2:=(hb3.cell (p:=⟨PB,2,none⟩) hPB).trans q2;have r3:=(hb3.cell (p:=⟨PB,3,none⟩) hPB).trans q3;have r4:=(hb3.cell (p:=⟨PB,4,none⟩) hPB).trans q4;have r5:=(hb3.cell (p:=⟨PB,5,none⟩) hPB).trans q5;have r6:=(hb3.cell (p:=⟨PB,6,none⟩) hPB).trans q6;have r7:=(hb3.cell (p:=⟨PB,7,none⟩) hPB).trans q7) | (go_at_call 17;refine (HPL.out w3 (((Below.refl w2.heap.size w2).drew).trans hb3)).mono ?_;rintro e w4 ⟨rfl,v4,hat4,ht4⟩))
 all_goals (
  have B3:=B2.out.trans ((((Below.refl w2.heap.size w2).drew).trans hb3).mono B2.out.size)
  have HT:=LH ((Turn.of_below (O:=k :: ownB v) (B3.alloc B3.size _)).trans ht4)
  have HA:=LH hat4
  clear ht4 hat4 HPL HV
  go_wp2_with fail
  refine bodyPost_ret (results_none rfl _ _ _) rfl ?_
  exact ⟨rfl,v4,HA.out,HT.out⟩)
theorem ins_lxi (n:Nat) (_hn:n<=65535) (w:World) :
  Calls Tryz.prog 13 #[.int .u8 33,.int .u16 n,.int .i64 31] w fun e w'=>∃ v' vs,e=.returned (.tuple #[v',.int .i64 0])/\StOwn w' w.heap.size v' [⟨[],false,[77,79,86],[wordA [66,88],numA n]⟩] vs/\Below w.heap.size w w':=by
 have HS:=LH (fun W=>size80_any 33 (by decide) W)
 rw [show size80 33=3 by decide] at HS
 have e1:(bits BinOp.and IntKind.u8 33 15)=1:=by decide
 go_enter Tryz.func13, Tryz.ntmps13
 go_wp2_with fail
 refine (HS.out _).mono ?_
 rintro e w1 ⟨rfl,hb⟩
 have HB:=LH hb
 clear hb HS
 have HL:=LH (low_lxi w1.heap.size n [] (.slice none 0 0) (w1.alloc (.cells #[.slice none 0 0,.int .u8 33,.int .u16 n,.int .i64 31] 124)) ⟨heap_alloc_new w1 _,[],OwnV.nil _ _⟩ (by simp))
 go_wp2_with fail
 refine HL.out.mono ?_
 rintro e w2 ⟨rfl,v2,hat,ht⟩
 have hb2:=ht.below w1.heap.size (fun g hg=>by rcases mem_kv.1 hg with h1 | h1;omega;cases h1) (by simp)
 have B2:=LH (HB.out.trans ((((Below.refl w1.heap.size w1).alloc (Nat.le_refl _) (.cells #[.slice none 0 0,.int .u8 33,.int .u16 n,.int .i64 31] 124)).trans hb2).mono HB.out.size))
 have c0:=coh (i:=0) hat.1
 simp at c0
 have HA:=LH hat
 clear hat ht hb2 HL
 go_wp2_with fail
 go_ret2
 obtain ⟨_,vs,h2⟩:=HA.out
 exact ⟨_,vs,rfl,⟨h2.1,own_base h2.2.1 (by have:=HB.out.size;omega),fun i hi=>stSub_keep _ _ _ _ _ _ (h2.2.2 i hi) (fun _ _=>rfl) (fun g hg=>⟨by have:=HB.out.size;have:=hg.1;omega,hg.2⟩)⟩,B2.out⟩
end Go.Proofs.YtbdnbfacalfciaaGreatDoor
