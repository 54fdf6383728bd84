/- Xh. -/
import Derived.Test.YtbdnbfacalfciaaGreatDoorXg
import Derived.Test.YtbdnbfacalfciaaGreatDoorLs
namespace Go.Proofs.YtbdnbfacalfciaaGreatDoor
set_option maxRecDepth 100000
set_option maxHeartbeats 8000000
open Go.RowKit
abbrev liV (l:Lin) (b s:Value):Value:=.agg #[.int .i64 l.n,.int .u16 l.pl,.int .i64 l.kind,b,.int .u16 l.v,.string ⟨l.e.op.toArray⟩,.int .u16 l.e.n,.string ⟨l.e.name.toArray⟩,s]
theorem BytS.form {w:World} {S:Nat->Prop} {v:Value} {l:List UInt8} (h:BytS w S v l):∃ A c,v=.slice A l.length c/\l.length<=c:=by
 obtain ⟨A,c,h1,h2,_⟩:=h
 exact ⟨A,c,h1,h2⟩
theorem BytS.rd {w:World} {S:Nat->Prop} {v:Value} {l:List UInt8} (h:BytS w S v l) (hS:∀ k,S k->k<w.heap.size):RdB w w.heap.size v l:=by
 obtain ⟨A,c,rfl,h2,h3⟩:=h
 refine ⟨A,c,rfl,h2,fun h0=>?_⟩
 obtain ⟨g,o,h4,h5,h6⟩:=h3 h0
 exact ⟨g,o,h4,hS g h5,h6⟩
theorem BytS.apart {w:World} {S:Nat->Prop} {v:Value} {l:List UInt8} (h:BytS w S v l) (im:Nat) (hS:¬ S im) (h0:l≠[]):v.ownBlock≠some im:=by
 obtain ⟨A,c,rfl,h2,h3⟩:=h
 obtain ⟨g,o,rfl,h5,h6⟩:=h3 (List.length_pos_iff.2 h0)
 intro he
 injection he with he
 have he2:g=im:=he
 exact hS (he2 ▸ h5)
theorem info_li:(Tryz.prog.info? 140).map (fun i=>(i.zero,i.size,i.bytes))=some (some (.agg #[.int .i64 0,.int .u16 0,.int .i64 0,.slice none 0 0,.int .u16 0,.string ⟨#[]⟩,.int .u16 0,.string ⟨#[]⟩,.slice none 0 0]),9,120):=by kernel_rfl
theorem eg_lay (E:EgA) (sec:Bool) (eg:Eg) (l:Lin) (b s:Value) (size:Nat) (hs1:size<=1000000) (hb1:l.b.length<=1000000) (hn1:eg.lines.length<=1000000) (w:World) (h:EgAt w E sec eg) (hl:LinAt w E.own E.g b s l) :
  Calls Tryz.prog 237 #[.pointer (some ⟨E.g,0,none⟩),liV l b s,.int .i64 size] w (EgR E sec w (layA sec eg l size)):=by
 obtain ⟨k0,_,_,k19,_,k21,_,k23,k24,_,k26,_⟩:=h.cell
 have hpl:=h.place
 obtain ⟨bA,bc,rfl,_⟩:=hl.1.form
 obtain ⟨sA,sc,rfl,_⟩:=hl.2.form
 have hg:=h.lt
 have H:=LH h
 have HL:=LH hl
 have B1:=LH ((Below.refl w.heap.size w).alloc (Nat.le_refl _) (.cells #[.int .i64 l.n,.int .u16 l.pl,.int .i64 l.kind,.slice bA l.b.length bc,.int .u16 l.v,.string ⟨l.e.op.toArray⟩,.int .u16 l.e.n,.string ⟨l.e.name.toArray⟩,.slice sA l.e.sub.length sc] 140))
 have O1:=LH (heap_alloc_new w (.cells #[.int .i64 l.n,.int .u16 l.pl,.int .i64 l.kind,.slice bA l.b.length bc,.int .u16 l.v,.string ⟨l.e.op.toArray⟩,.int .u16 l.e.n,.string ⟨l.e.name.toArray⟩,.slice sA l.e.sub.length sc] 140))
 have HE:=LH (h.bel B1.out)
 have q0:=(B1.out.cell (p:=⟨E.g,0,none⟩) hg).trans k0
 have q19:=(B1.out.cell (p:=⟨E.g,19,none⟩) hg).trans k19
 have fz:=HE.out.free 0
 clear h hl
 by_cases h1:65536 - eg.pl<size
 ·have e1:(65536:Int) - (eg.pl:Int)<(size:Int):=by omega
  have hv:layA sec eg l size=(eg,7):=by unfold layA;rw [if_pos h1]
  rw [hv]
  go_enter Tryz.func237, Tryz.ntmps237
  go_wp2_with fail
  go_ret
  exact EgR.bad 7 (by decide) (Turn.of_below B1.out)
 have e1:decide ((65536:Int) - (eg.pl:Int)<(size:Int))=false:=by simp;omega
 have e2:¬ (65536:Int) - (eg.pl:Int)<(size:Int):=by omega
 cases sec with
 | false=>
  have hv:layA false eg l size=({ eg with pl:=eg.pl+size },0):=by unfold layA;rw [if_neg h1,if_pos rfl]
  rw [hv]
  have HR:=LH (HE.out.move (eg.pl+size) (by omega))
  have HT:=LH ((Turn.of_below (O:=E.own) B1.out).set E.g 0 (.int .i64 ((eg.pl+size:Nat):Int)) (.inl (mem_own.2 (.inl rfl))))
  have e3:IntKind.i64.wrap ((eg.pl:Int)+(size:Int))=((eg.pl+size:Nat):Int):=by rw [IntWalk.i64_in _ (by omega)];omega
  have e4:((eg.pl+size:Nat):Int)=(eg.pl:Int)+(size:Int):=by omega
  rw [e4,World.setCell_alloc_past _ E.g 0 _ hg] at HR HT
  go_enter Tryz.func237, Tryz.ntmps237
  go_wp2_with fail
  go_ret
  exact ⟨rfl,E,E.like_refl,HT.out,fun _=>HR.out⟩
 | true=>
  have O2:=LH (show (w.alloc (.cells #[.int .i64 l.n,.int .u16 l.pl,.int .i64 l.kind,.slice bA l.b.length bc,.int .u16 l.v,.string ⟨l.e.op.toArray⟩,.int .u16 l.e.n,.string ⟨l.e.name.toArray⟩,.slice sA l.e.sub.length sc] 140)).heap[w.heap.size]? = some (.cells #[.int .i64 l.n,.int .u16 l.pl,.int .i64 l.kind,.slice bA l.b.length bc,.int .u16 l.v,.string ⟨l.e.op.toArray⟩,.int .u16 l.e.n,.string ⟨l.e.name.toArray⟩,.slice sA l.e.sub.length sc] 140 (0,0)) from O1.out)
  have hz1:(w.alloc (.cells #[.int .i64 l.n,.int .u16 l.pl,.int .i64 l.kind,.slice bA l.b.length bc,.int .u16 l.v,.string ⟨l.e.op.toArray⟩,.int .u16 l.e.n,.string ⟨l.e.name.toArray⟩,.slice sA l.e.sub.length sc] 140)).heap.size=w.heap.size+1:=by simp
  clear O1
  go_enter Tryz.func237, Tryz.ntmps237
  go_wp2_with fail
  generalize (w.alloc (.cells #[.int .i64 l.n,.int .u16 l.pl,.int .i64 l.kind,.slice bA l.b.length bc,.int .u16 l.v,.string ⟨l.e.op.toArray⟩,.int .u16 l.e.n,.string ⟨l.e.name.toArray⟩,.slice sA l.e.sub.length sc] 140))=w1 at *
  have HP:Hid (∀ W,Below w1.heap.size w1 W->Calls Tryz.prog 252 #[.pointer (some ⟨E.im,0,none⟩),.int .i64 eg.pl,.slice bA l.b.length bc] W (ImPut E.im (imgL eg.lines) eg.pl l.b W)):=LH (fun W hW=>by
   have hbW:Below w.heap.size w W:=bthen B1.out hW
   have hb:=HL.out.1.keep (w':=W) (S':=fun k=>k<W.heap.size/\k∉E.own) (fun p hp=>hbW.cell hp.1.1) (fun k hk=>⟨Nat.lt_of_lt_of_le hk.1.1 hbW.size,hk.1.2⟩)
   exact imPut_any E.im (imgL eg.lines) eg.pl (by omega) l.b _ hb1 W (H.out.bel hbW).img (hb.rd (fun k hk=>hk.1)) (hb.apart E.im (fun hh=>hh.2 (mem_own.2 (by simp)))))
  have j0:=cell_regrown q0
  have HC:=HE.out.cell
  have j23:=cell_regrown HC.2.2.2.2.2.2.2.1
  have jb:=cell_regrown (coh (i:=3) O2.out)
  clear HC
  refine wp_region_quiet_tail 12 (by kernel_rfl) (by kernel_rfl) ?_
  repeat (quiet_step (fail))
  refine wpQuiet_nil ?_
  intro _ hw'
  obtain ⟨⟨dq,osq⟩,hw''⟩:=hw'
  subst hw''
  have B2:=LH (below_regrown w1 dq osq)
  generalize Go.Sort.grow (redrawn w1 dq) osq=w2 at *
  go_wp2_with fail
  refine (HP.out _ B2.out).mono ?_
  intro e w3 hp
  obtain ⟨rfl,him,hz3,hk3,hst3⟩:=hp
  have B12:=LH (bthen B1.out B2.out)
  have HT3:=LH ((Turn.of_below (O:=E.own) B12.out).trans (Turn.one (b:=E.im) (mem_own.2 (by simp)) hz3 hk3 hst3))
  have HK3:=LH hk3
  have HST3:=LH ((Still.bel B12.out).trans hst3)
  clear hst3
  by_cases hp0:imK (imgL eg.lines) eg.pl l.b=0
  rotate_left
  ·have hv:layA true eg l size=(eg,imK (imgL eg.lines) eg.pl l.b):=by unfold layA;rw [if_neg h1,if_neg (by decide),putIK_eq,if_pos hp0]
   have HV:=LH hv
   have hb:=EgR.bad (sec:=true) (eg:=eg) _ hp0 HT3.out
   have HB:=LH hb
   have e5:((imK (imgL eg.lines) eg.pl l.b:Nat):Int) != 0:=by rw [bne_iff_ne];omega
   clear him hk3 hp0 hb hv
   generalize imK (imgL eg.lines) eg.pl l.b=pk at *
   go_wp2_with fail
   go_ret
   rw [HV.out]
   exact HB.out
  rw [if_pos hp0] at him
  have hlp:updF (imgL eg.lines) eg.pl l.b=imgL (eg.lines++[{ l with pl:=eg.pl % 65536 }]):=upd_img eg.lines { l with pl:=eg.pl % 65536 } eg.pl rfl hp0
  rw [hlp] at him
  have HIM:=LH him
  have hv:layA true eg l size=({ eg with pl:=eg.pl+size,lines:=eg.lines++[{ l with pl:=eg.pl % 65536 }],has:=eg.has || l.kind == 1,entry:=if l.kind=1/\eg.has=false then eg.pl % 65536 else eg.entry },0):=by unfold layA;rw [if_neg h1,if_neg (by decide),putIK_eq,if_neg (by rw [hp0];decide)]
  have HV:=LH hv
  rw [hp0]
  have him1:E.im<w.heap.size:=H.out.img.lt
  have hgim:E.g≠E.im:=H.out.apart.2.2.1
  have hz12:=B2.out.size
  have O3:=LH (((hk3 w.heap.size (by omega) (by omega)).trans (B2.out.block w.heap.size (by omega))).trans O2.out)
  have hg3:w3.heap[E.g]? = w1.heap[E.g]?:=(hk3 E.g (by omega) hgim).trans (B2.out.block E.g (by omega))
  have hg1:∀ i,w3.cell? ⟨E.g,i,none⟩=w1.cell? ⟨E.g,i,none⟩:=fun i=>World.cell?_of_block hg3
  have c0:=(hg1 0).trans q0
  clear him hk3 hlp hv hp0 hg3
  have HH:=LH (fun W=>here_any eg.pl (by omega) W)
  have hpm:eg.pl % 65536<=65535:=by omega
  generalize eg.pl % 65536=pm at *
  go_wp2_with fail
  refine (HH.out _).mono ?_
  rintro e w4 ⟨rfl,hb4⟩
  have O4:=LH ((hb4.block w.heap.size (by omega)).trans O3.out)
  have x1:=foh (i:=1) O4.out
  have y1:=coh (i:=1) O4.out
  simp at x1 y1
  have B4:=LH hb4
  clear hb4 O3 c0
  go_upto_region 8 with (fail)
  have hz4:=B4.out.size
  have hbox:w.heap.size<w4.heap.size:=loh O4.out
  have O5:=LH (heap_set (i:=1) (.int .u16 (pm:Int)) O4.out)
  have HOLD:Hid (∀ k,k<w.heap.size->k≠E.im->(w4.setCell ⟨w.heap.size,1,none⟩ (.int .u16 (pm:Int))).heap[k]? = w.heap[k]?):=LH (fun k hk hki=>
   ((((set_block (by omega)).trans (B4.out.block k (by omega))).trans (HK3.out k (by omega) hki)).trans (B2.out.block k (by omega))).trans (B1.out.block k hk))
  have HIM5:=LH (HIM.out.keep (w':=w4.setCell ⟨w.heap.size,1,none⟩ (.int .u16 (pm:Int))) ((set_block (by omega)).trans (B4.out.block _ (by omega))))
  have HST5:=LH (show Still w (w4.setCell ⟨w.heap.size,1,none⟩ (.int .u16 (pm:Int))) from (HST3.out.trans (Still.bel B4.out):Still w w4))
  have hz5:(w4.setCell ⟨w.heap.size,1,none⟩ (.int .u16 (pm:Int))).heap.size=w4.heap.size:=by simp
  generalize w4.setCell ⟨w.heap.size,1,none⟩ (.int .u16 (pm:Int))=w5 at *
  clear x1 y1 O4 hg1 HIM HK3 B4 hz4
  have hbox5:w.heap.size<w5.heap.size:=by omega
  have G5:=HOLD.out E.g hg hgim
  have hgc:∀ i,w5.cell? ⟨E.g,i,none⟩=w.cell? ⟨E.g,i,none⟩:=fun i=>World.cell?_of_block G5
  have hgf:∀ i,w5.frozen? ⟨E.g,i,none⟩=false:=fun i=>(World.frozen?_of_block G5).trans (H.out.free i)
  have c26:=(hgc 26).trans k26
  have f26:=hgf 26
  have m0:=coh (i:=0) O5.out
  have m1:=coh (i:=1) O5.out
  have m2:=coh (i:=2) O5.out
  have m3:=coh (i:=3) O5.out
  have m4:=coh (i:=4) O5.out
  have m5:=coh (i:=5) O5.out
  have m6:=coh (i:=6) O5.out
  have m7:=coh (i:=7) O5.out
  have m8:=coh (i:=8) O5.out
  simp at m0 m1 m2 m3 m4 m5 m6 m7 m8
  obtain ⟨vs,hvs,hrow,hsub⟩:=H.out.rows
  have HVS:=LH hvs
  have HSUB:=LH hsub
  have HROW:Hid (w5.ownsRow 0 140 9 E.lv eg.lines.length (rowV liCells eg.lines vs)):=LH (row_keep hrow (fun k hk=>HOLD.out k ((hrow.lt k hk).2) ((H.out.apart.2.2.2.2.2.2.1 k hk).2.2.2.1)))
  obtain ⟨lA,lc,hlv,_⟩:=own_slice hrow (by omega)
  clear hvs hsub hrow
  rw [hlv] at c26 k26
  have f0:=hgf 0
  have f21:=hgf 21
  have f24:=hgf 24
  have c0:=(hgc 0).trans k0
  have c21:=(hgc 21).trans k21
  have c24:=(hgc 24).trans k24
  have c26a:=fun o=>new_keep (o:=o) c26
  clear hgc hgf
  have HLV:=LH hlv
  have hgl:E.lv.ownBlock≠some E.g:=fun e=>(H.out.apart.2.2.2.2.2.2.1 _ e).1 rfl
  rw [hlv] at HROW hgl
  have HGL:=LH hgl
  clear hgl
  have hone:∀ u∈liCells { l with pl:=pm } (.agg #[.slice bA l.b.length bc,.slice sA l.e.sub.length sc]),u.oneCell'=true:=by
   intro u hu
   rw [liCells_eq] at hu
   simp only [List.mem_cons,List.not_mem_nil,or_false] at hu
   rcases hu with rfl | rfl | rfl | rfl | rfl | rfl | rfl | rfl | rfl <;> rfl
  have HONE:=LH hone
  have hg5:E.g<w5.heap.size:=by omega
  have HVS2:=LH (show ∀ _:Nat,(w5.drew.alloc (.cells (liCells { l with pl:=pm } (.agg #[.slice bA l.b.length bc,.slice sA l.e.sub.length sc])).toArray 140)).heap[E.g]? = w5.heap[E.g]? from fun _=>Below.heap_alloc w5.drew _ E.g hg5)
  have HZ5:=LH hz5
  clear hone hlv hz5
  have B5:=LH (Below.refl w5.heap.size w5)
  go_cut [42,43,44,45,46,47,48,49,50,51,52,53] (fun _ _ _ _ _ _ _ _ _ _ _ _ wx=>∃ lv',EgAt wx (E.withL lv') true { eg with lines:=eg.lines++[{ l with pl:=pm }] }/\Turn E.own w (E.withL lv').own wx /\
   wx.heap[w.heap.size]? = some (.cells #[.int .i64 l.n,.int .u16 (pm:Int),.int .i64 l.kind,.slice bA l.b.length bc,.int .u16 l.v,.string ⟨l.e.op.toArray⟩,.int .u16 l.e.n,.string ⟨l.e.name.toArray⟩,.slice sA l.e.sub.length sc] 140 (0,0)))
  case first=>
   go_region_law (refine step_append_to _ (by rfl) _ _ _ (by rfl) 0 140 _ 9 120 Tryz.underlying91 info_li (by rfl) (by decide) (HROW.out.alloc _) (by rfl) (rd_new w5 w5.heap.size rfl (liCells { l with pl:=pm } (.agg #[.slice bA l.b.length bc,.slice sA l.e.sub.length sc])) _) (by rfl) (by rfl) HONE.out (by omega) (by omega) (Nat.zero_le _) ?_;intro v' w6 hown6 hg6 hv6;obtain ⟨vA,vc,rfl,_⟩:=own_slice hown6 (by omega);have G6:=(hg6.block E.g (by simp;omega) (fun e=>HGL.out e.symm)).trans (HVS2.out 0);have c66:=(World.cell?_of_block (a:=⟨E.g,26,none⟩) G6).trans c26;have f66:=(World.frozen?_of_block (a:=⟨E.g,26,none⟩) G6).trans f26)
   all_goals (
    have hX:EgAt (w6.setCell ⟨E.g,26,none⟩ (.slice vA (eg.lines.length+1) vc)) (E.withL (.slice vA (eg.lines.length+1) vc)) true { eg with lines:=eg.lines++[{ l with pl:=pm }] }/\Turn E.own w (E.withL (.slice vA (eg.lines.length+1) vc)).own (w6.setCell ⟨E.g,26,none⟩ (.slice vA (eg.lines.length+1) vc)):=
     H.out.line (w1:=w5) (w2:=(w5.drew.alloc (.cells (liCells { l with pl:=pm } (.agg #[.slice bA l.b.length bc,.slice sA l.e.sub.length sc])).toArray 140))) HIM5.out (by omega) HOLD.out HST5.out (B5.out.drew.alloc (Nat.le_refl _) _) HL.out HVS.out HSUB.out hown6 (by rw [HLV.out];exact hg6) (by rw [HLV.out];exact hv6)
    have HX:=LH hX
    have HBX:=LH (((set_block (g:=E.g) (i:=26) (u:=.slice vA (eg.lines.length+1) vc) (by omega:w.heap.size≠E.g)).trans ((hg6.block w.heap.size (by simp;omega) (fun e=>by have:=H.out.owned w.heap.size (mem_own.2 (.inr (.inr (.inr (.inr (.inl (by rw [HLV.out];exact e.symm)))))));omega)).trans (Below.heap_alloc w5.drew _ w.heap.size hbox5))).trans O5.out)
    go_simp
    go_wp2_with fail
    go_meet
    exact ⟨_,HX.out.1,HX.out.2,HBX.out⟩)
  case rest=>
   obtain ⟨lv',hE,hT,hB⟩:=hcut
   have HEC:=LH hE
   have HTC:=LH hT
   have HBC:=LH hB
   obtain ⟨r0,_,_,_,_,r21,_,_,r24,_⟩:=hE.cell
   have g0:=hE.free 0
   have g21:=hE.free 21
   have g24:=hE.free 24
   have y1:=coh (i:=1) hB
   have y2:=coh (i:=2) hB
   simp at y1 y2
   have hgE:(E.withL lv').g=E.g:=rfl
   rw [hgE] at r0 r21 r24 g0 g21 g24
   clear hE hT hB hgE HSUB HVS HROW HIM5 HOLD G5 HGL HLV HZ5 HONE HVS2 c0 c21 c24 c26 c26a f0 f21 f24 f26 m0 m1 m2 m3 m4 m5 m6 m7 m8 k0 k19 k21 k23 k24 k26 q0 q19 O5 B5
   have e5:IntKind.i64.wrap ((eg.pl:Int)+(size:Int))=(eg.pl:Int)+(size:Int):=by rw [IntWalk.i64_in _ (by omega)]
   have HMV:=LH (fun (en:Nat) (hs:Bool) (w':World) (h:EgAt w' (E.withL lv') true { eg with lines:=eg.lines++[{ l with pl:=pm }],has:=hs,entry:=en })=>h.move (eg.pl+size) (by show eg.pl+size<=65536;omega))
   have hgm:E.g∈(E.withL lv').own:=mem_own.2 (.inl rfl)
   have HGM:=LH hgm
   clear hgm
   by_cases hk1:l.kind=1
   ·have e6:((l.kind:Int) == 1)=true:=by rw [beq_iff_eq];omega
    cases hh:eg.has with
    | false=>
     have hX:=HMV.out pm true ((wc.drew.setCell ⟨E.g,21,none⟩ (.bool true)).setCell ⟨E.g,24,none⟩ (.int .u16 (pm:Int)))
      (((HEC.out.bel ((Below.refl _ _).drew)).put 4 (.bool true) true { eg with lines:=eg.lines++[{ l with pl:=pm }],has:=true } rfl rfl ⟨Nat.le_refl _,(List.take_length).symm⟩ rfl rfl rfl H.out.ent).put 7 (.int .u16 (pm:Int)) true { eg with lines:=eg.lines++[{ l with pl:=pm }],has:=true,entry:=pm } rfl rfl ⟨Nat.le_refl _,(List.take_length).symm⟩ rfl rfl rfl hpm)
     have hTX:=((HTC.out.drew.set E.g 21 (.bool true) (.inl HGM.out)).set E.g 24 (.int .u16 (pm:Int)) (.inl HGM.out)).set E.g 0 (.int .i64 ((eg.pl+size:Nat):Int)) (.inl HGM.out)
     rw [show ((eg.pl+size:Nat):Int)=(eg.pl:Int)+(size:Int) by omega] at hX hTX
     have HX:=LH hX
     have HTX:=LH hTX
     have HVX:Hid (layA true eg l size=({ eg with pl:=eg.pl+size,lines:=eg.lines++[{ l with pl:=pm }],has:=true,entry:=pm },0)):=LH (by rw [HV.out,if_pos ⟨hk1,hh⟩,hh,hk1];rfl)
     rw [hh] at r21
     clear hX hTX hk1 hh HMV HV
     go_wp2_with fail
     go_region
     all_goals (
      go_wp2_with fail
      go_ret
      rw [HVX.out]
      exact ⟨rfl,E.withL lv',⟨rfl,rfl,rfl,rfl,rfl⟩,HTX.out,fun _=>HX.out⟩)
    | true=>
     have hX:=HMV.out eg.entry eg.has wc (HEC.out)
     have hTX:=HTC.out.set E.g 0 (.int .i64 ((eg.pl+size:Nat):Int)) (.inl HGM.out)
     rw [show ((eg.pl+size:Nat):Int)=(eg.pl:Int)+(size:Int) by omega] at hX hTX
     have HX:=LH hX
     have HTX:=LH hTX
     have HVX:Hid (layA true eg l size=({ eg with pl:=eg.pl+size,lines:=eg.lines++[{ l with pl:=pm }] },0)):=LH (by rw [HV.out,if_neg (by simp [hh]),hh];simp [← hh])
     rw [hh] at r21
     clear hX hTX hk1 hh HMV HV
     go_wp2_with fail
     go_ret
     rw [HVX.out]
     exact ⟨rfl,E.withL lv',⟨rfl,rfl,rfl,rfl,rfl⟩,HTX.out,fun _=>HX.out⟩
   ·have e6:((l.kind:Int) == 1)=false:=by rw [beq_eq_false_iff_ne];omega
    have hX:=HMV.out eg.entry eg.has wc (HEC.out)
    have hTX:=HTC.out.set E.g 0 (.int .i64 ((eg.pl+size:Nat):Int)) (.inl HGM.out)
    rw [show ((eg.pl+size:Nat):Int)=(eg.pl:Int)+(size:Int) by omega] at hX hTX
    have HX:=LH hX
    have HTX:=LH hTX
    have HVX:Hid (layA true eg l size=({ eg with pl:=eg.pl+size,lines:=eg.lines++[{ l with pl:=pm }] },0)):=LH (by rw [HV.out,if_neg (by simp [hk1])];simp [hk1])
    clear hX hTX hk1 HMV HV
    go_wp2_with fail
    go_ret
    rw [HVX.out]
    exact ⟨rfl,E.withL lv',⟨rfl,rfl,rfl,rfl,rfl⟩,HTX.out,fun _=>HX.out⟩
theorem EgAt.slot {w:World} {E:EgA} {sec:Bool} {eg:Eg} (h:EgAt w E sec eg) (j:Nat) (hj:j<8):∃ (b:Bool) (l:Nat),w.cell? ⟨E.g,1+2 * j,none⟩=some (.bool b)/\w.cell? ⟨E.g,1+2 * j+1,none⟩=some (.int .i64 l):=by
 obtain ⟨raw,h1,h2,h3⟩:=h.cells
 have hg:=fk_get raw j (by omega)
 have hl:(fkCells raw).length=16:=by rw [fk_len,h1]
 have G:=fun (i:Nat)=>(coh (i:=i) h3).trans (List.getElem?_toArray)
 refine ⟨raw[j].1,raw[j].2,(G _).trans ?_,(G _).trans ?_⟩
 ·rw [egCells,show 1+2 * j=2 * j+1 by omega,List.getElem?_cons_succ,List.getElem?_append_left (by omega)]
  exact hg.1
 ·rw [egCells,show 1+2 * j+1=(2 * j+1)+1 by omega,List.getElem?_cons_succ,List.getElem?_append_left (by omega)]
  exact hg.2
theorem EgAt.pop {w:World} {E:EgA} {sec:Bool} {eg:Eg} (h:EgAt w E sec eg) (h0:eg.op≠[]):EgAt (w.setCell ⟨E.g,17,none⟩ (.int .i64 ((eg.op.length:Int) - 1))) E sec { eg with op:=eg.op.dropLast }:=by
 have hp:0<eg.op.length:=List.length_pos_iff.2 h0
 refine h.put 0 _ sec { eg with op:=eg.op.dropLast } ?_ rfl ⟨by simp,by simp [List.dropLast_eq_take]⟩ rfl rfl rfl h.ent
 simp only [egTail,List.set_cons_zero,List.length_dropLast]
 rw [show ((eg.op.length - 1:Nat):Int)=(eg.op.length:Int) - 1 by omega]
theorem eg_endif (E:EgA) (sec:Bool) (eg:Eg) (lab:List UInt8) (colon:Bool) (args:List Ar) (v:Value) (i:Nat) (_hi:i<=1000000) (w:World) (h:EgAt w E sec eg) (hs:ArAt w (· < w.heap.size) v args) :
  Calls Tryz.prog 200 #[.pointer (some ⟨E.g,0,none⟩),stV ⟨lab,colon,sENDIF,args⟩ v,.int .i64 i] w (EgR E sec w (branchA ⟨lab,colon,sENDIF,args⟩ i eg)):=by
 obtain ⟨_,k17,_⟩:=h.cell
 have hfew:=h.few
 have H:=LH h
 have HS:=LH hs
 obtain ⟨A,c,rfl,hc,hm⟩:=hs.form
 have hg:=h.lt
 have B1:=LH ((Below.refl w.heap.size w).alloc (Nat.le_refl _) (.cells #[.string ⟨lab.toArray⟩,.bool colon,.string ⟨#[69,78,68,73,70]⟩,.slice A args.length c] 63))
 have O1:=LH (heap_alloc_new w (.cells #[.string ⟨lab.toArray⟩,.bool colon,.string ⟨#[69,78,68,73,70]⟩,.slice A args.length c] 63))
 have HOP:=LH (fun W=>operands_any sENDIF W)
 have HLD:=LH (fun W (hW:Below w.heap.size w W)=>laid_any ⟨lab,colon,sENDIF,args⟩ (.slice A args.length c) 0 0 (by omega) W (HS.out.at hW hW.size))
 have HV:Hid (branchA ⟨lab,colon,sENDIF,args⟩ i eg=if lab≠[]∨laidA ⟨lab,colon,sENDIF,args⟩ 0 0=false then (eg,2) else if eg.op = [] then (eg,2) else ({ eg with op:=eg.op.dropLast },0)):=LH rfl
 generalize branchA ⟨lab,colon,sENDIF,args⟩ i eg=res at *
 generalize laidA ⟨lab,colon,sENDIF,args⟩ 0 0=ld at *
 unfold stV at *
 simp only at *
 have hz:((0:Nat):Int)=0:=rfl
 clear h hs hm hc
 by_cases hl:lab = []
 rotate_left
 ·have e1:(lab != [])=true:=by simpa using hl
  have e2:(!lab.isEmpty)=true:=by simpa using hl
  have HX:Hid (res=(eg,2)):=LH (by rw [HV.out,if_pos (.inl hl)])
  clear hl HV
  go_enter Tryz.func200, Tryz.ntmps200
  go_wp2_with fail
  refine (HOP.out _).mono ?_
  rintro e w1 ⟨rfl,rfl⟩
  go_wp2_with fail
  go_ret
  rw [HX.out]
  exact EgR.bad 2 (by decide) (Turn.of_below B1.out)
 subst hl
 cases ld with
 | false=>
  have HX:Hid (res=(eg,2)):=LH (by rw [HV.out,if_pos (.inr rfl)])
  clear HV
  go_enter Tryz.func200, Tryz.ntmps200
  go_wp2_with fail
  refine (HOP.out _).mono ?_
  rintro e w1 ⟨rfl,rfl⟩
  go_wp2_with fail
  refine (HLD.out _ B1.out).mono ?_
  rintro e w2 ⟨rfl,hb2⟩
  go_wp2_with fail
  go_ret
  rw [HX.out]
  exact EgR.bad 2 (by decide) (Turn.of_below (bthen B1.out hb2))
 | true=>
  have HV2:Hid (res=if eg.op = [] then (eg,2) else ({ eg with op:=eg.op.dropLast },0)):=LH (by rw [HV.out,if_neg (by simp)])
  clear HV
  by_cases h0:eg.op = []
  ·have HX:Hid (res=(eg,2)):=LH (by rw [HV2.out,if_pos h0])
   have e1:eg.op.length=0:=by rw [h0];rfl
   rw [e1] at k17
   clear HV2 h0
   go_enter Tryz.func200, Tryz.ntmps200
   go_wp2_with fail
   refine (HOP.out _).mono ?_
   rintro e w1 ⟨rfl,rfl⟩
   go_wp2_with fail
   refine (HLD.out _ B1.out).mono ?_
   rintro e w2 ⟨rfl,hb2⟩
   have O2:=LH ((hb2.block w.heap.size (by simp)).trans O1.out)
   have x2:=coh (i:=2) O2.out
   simp at x2
   have B2:=LH (bthen B1.out hb2)
   have c17:=(B2.out.cell (p:=⟨E.g,17,none⟩) hg).trans k17
   clear hb2
   go_wp2_with fail
   go_ret
   rw [HX.out]
   exact EgR.bad 2 (by decide) (Turn.of_below B2.out)
  ·have HX:Hid (res=({ eg with op:=eg.op.dropLast },0)):=LH (by rw [HV2.out,if_neg h0])
   have hp:0<eg.op.length:=List.length_pos_iff.2 h0
   have e1:((eg.op.length:Int) == 0)=false:=by rw [beq_eq_false_iff_ne];omega
   have HP:=LH (fun W (hW:Below w.heap.size w W)=>(H.out.bel hW).pop h0)
   clear HV2 h0
   generalize eg.op.length=ol at *
   have e2:IntKind.i64.wrap ((ol:Int) - 1)=(ol:Int) - 1:=by rw [IntWalk.i64_in _ (by omega)]
   go_enter Tryz.func200, Tryz.ntmps200
   go_wp2_with fail
   refine (HOP.out _).mono ?_
   rintro e w1 ⟨rfl,rfl⟩
   go_wp2_with fail
   refine (HLD.out _ B1.out).mono ?_
   rintro e w2 ⟨rfl,hb2⟩
   have O2:=LH ((hb2.block w.heap.size (by simp)).trans O1.out)
   have x2:=coh (i:=2) O2.out
   simp at x2
   have B2:=LH (bthen B1.out hb2)
   have c17:=(B2.out.cell (p:=⟨E.g,17,none⟩) hg).trans k17
   have f17:=(H.out.bel B2.out).free 17
   have HR:=LH (HP.out _ B2.out)
   have HT:=LH ((Turn.of_below (O:=E.own) B2.out).set E.g 17 (.int .i64 ((ol:Int) - 1)) (.inl (mem_own.2 (.inl rfl))))
   clear hb2
   go_wp2_with fail
   go_ret
   rw [HX.out]
   exact ⟨rfl,E,E.like_refl,HT.out,fun _=>HR.out⟩
theorem laid_len {s:St} {least most:Nat} (h:laidA s least most=true):least<=s.args.length/\s.args.length<=most:=by
 unfold laidA at h
 simp only [Bool.and_eq_true,decide_eq_true_eq] at h
 exact h.1
theorem eg_if (E:EgA) (sec:Bool) (eg:Eg) (lab:List UInt8) (colon:Bool) (args:List Ar) (v:Value) (i:Nat) (hi:i<=1000000) (w:World) (h:EgAt w E sec eg) (hok:okSt ⟨lab,colon,sIF,args⟩) (hs:ArAt w (· < w.heap.size) v args) :
  Calls Tryz.prog 200 #[.pointer (some ⟨E.g,0,none⟩),stV ⟨lab,colon,sIF,args⟩ v,.int .i64 i] w (EgR E sec w (branchA ⟨lab,colon,sIF,args⟩ i eg)):=by
 obtain ⟨_,k17,_⟩:=h.cell
 have hfew:=h.few
 have H:=LH h
 have HS:=LH hs
 obtain ⟨A,c,rfl,hc,hm⟩:=hs.form
 have hg:=h.lt
 have B1:=LH ((Below.refl w.heap.size w).alloc (Nat.le_refl _) (.cells #[.string ⟨lab.toArray⟩,.bool colon,.string ⟨#[73,70]⟩,.slice A args.length c] 63))
 have O1:=LH (heap_alloc_new w (.cells #[.string ⟨lab.toArray⟩,.bool colon,.string ⟨#[73,70]⟩,.slice A args.length c] 63))
 have HOP:=LH (fun W=>operands_any sIF W)
 have HLD:=LH (fun W (hW:Below w.heap.size w W)=>laid_any ⟨lab,colon,sIF,args⟩ (.slice A args.length c) 1 1 (by omega) W (HS.out.at hW hW.size))
 have HV:Hid (branchA ⟨lab,colon,sIF,args⟩ i eg=if lab≠[]∨laidA ⟨lab,colon,sIF,args⟩ 1 1=false then (eg,2) else if eg.op.length=8 then (eg,11) else
  if countsA eg then (if (evA eg (arg0 ⟨lab,colon,sIF,args⟩)).2≠0 then (eg,(evA eg (arg0 ⟨lab,colon,sIF,args⟩)).2) else ({ eg with op:=eg.op++[((evA eg (arg0 ⟨lab,colon,sIF,args⟩)).1 != 0,i+1)] },0)) else ({ eg with op:=eg.op++[(false,i+1)] },0)):=LH rfl
 have HCN:=LH (fun W (hW:Below w.heap.size w W)=>eg_counts E sec eg W (H.out.bel hW))
 have HLEN:=LH (fun hh=>@laid_len ⟨lab,colon,sIF,args⟩ 1 1 hh)
 have HFI:=LH (fun W (hW:Below w.heap.size w W) (hn:0<args.length)=>eg_first E sec eg ⟨lab,colon,sIF,args⟩ (.slice A args.length c) W (H.out.bel hW) hn hok (HS.out.at hW hW.size))
 generalize branchA ⟨lab,colon,sIF,args⟩ i eg=res at *
 generalize laidA ⟨lab,colon,sIF,args⟩ 1 1=ld at *
 generalize countsA eg=cn at *
 have hev:(evA eg (arg0 ⟨lab,colon,sIF,args⟩)).1=(evA eg (arg0 ⟨lab,colon,sIF,args⟩)).1:=rfl
 generalize evA eg (arg0 ⟨lab,colon,sIF,args⟩)=ev at *
 unfold stV at *
 simp only at *
 have hz:((1:Nat):Int)=1:=rfl
 clear h hs hm hc hok hev
 by_cases hl:lab = []
 rotate_left
 ·have e1:(lab != [])=true:=by simpa using hl
  have e2:(!lab.isEmpty)=true:=by simpa using hl
  have HX:Hid (res=(eg,2)):=LH (by rw [HV.out,if_pos (.inl hl)])
  clear hl HV
  go_enter Tryz.func200, Tryz.ntmps200
  go_wp2_with fail
  refine (HOP.out _).mono ?_
  rintro e w1 ⟨rfl,rfl⟩
  go_wp2_with fail
  go_ret
  rw [HX.out]
  exact EgR.bad 2 (by decide) (Turn.of_below B1.out)
 subst hl
 cases ld with
 | false=>
  have HX:Hid (res=(eg,2)):=LH (by rw [HV.out,if_pos (.inr rfl)])
  clear HV
  go_enter Tryz.func200, Tryz.ntmps200
  go_wp2_with fail
  refine (HOP.out _).mono ?_
  rintro e w1 ⟨rfl,rfl⟩
  go_wp2_with fail
  refine (HLD.out _ B1.out).mono ?_
  rintro e w2 ⟨rfl,hb2⟩
  go_wp2_with fail
  go_ret
  rw [HX.out]
  exact EgR.bad 2 (by decide) (Turn.of_below (bthen B1.out hb2))
 | true=>
  have HV2:=LH (HV.out.trans (if_neg (by simp)))
  have hlen:=HLEN.out rfl
  clear HV HLEN
  by_cases h8:eg.op.length=8
  ·have HX:Hid (res=(eg,11)):=LH (by rw [HV2.out,if_pos h8])
   rw [h8] at k17
   clear HV2 h8
   go_enter Tryz.func200, Tryz.ntmps200
   go_wp2_with fail
   refine (HOP.out _).mono ?_
   rintro e w1 ⟨rfl,rfl⟩
   go_wp2_with fail
   refine (HLD.out _ B1.out).mono ?_
   rintro e w2 ⟨rfl,hb2⟩
   have O2:=LH ((hb2.block w.heap.size (by simp)).trans O1.out)
   have x2:=coh (i:=2) O2.out
   simp at x2
   have B2:=LH (bthen B1.out hb2)
   have c17:=(B2.out.cell (p:=⟨E.g,17,none⟩) hg).trans k17
   clear hb2
   go_wp2_with fail
   go_ret
   rw [HX.out]
   exact EgR.bad 11 (by decide) (Turn.of_below B2.out)
  ·have HV3:=LH (HV2.out.trans (if_neg h8))
   have hlt8:eg.op.length<8:=by omega
   have e1:((eg.op.length:Int) == 8)=false:=by rw [beq_eq_false_iff_ne];omega
   have HSL:=LH (fun W (hW:Below w.heap.size w W)=>(H.out.bel hW).slot eg.op.length hlt8)
   have HPU:=LH (fun W (hW:Below w.heap.size w W) b=>(H.out.bel hW).push b (i+1) hlt8)
   clear HV2 h8 hfew
   generalize eg.op.length=ol at *
   have i1:(ol:Int)<8:=by omega
   have e2:IntKind.i64.wrap ((ol:Int)+1)=(ol:Int)+1:=by rw [IntWalk.i64_in _ (by omega)]
   have e3:IntKind.i64.wrap ((i:Int)+1)=(i:Int)+1:=by rw [IntWalk.i64_in _ (by omega)]
   go_enter Tryz.func200, Tryz.ntmps200
   go_wp2_with fail
   refine (HOP.out _).mono ?_
   rintro e w1 ⟨rfl,rfl⟩
   go_wp2_with fail
   refine (HLD.out _ B1.out).mono ?_
   rintro e w2 ⟨rfl,hb2⟩
   have O2:=LH ((hb2.block w.heap.size (by simp)).trans O1.out)
   have x2:=coh (i:=2) O2.out
   simp at x2
   have B2:=LH (bthen B1.out hb2)
   have c17:=(B2.out.cell (p:=⟨E.g,17,none⟩) hg).trans k17
   clear hb2
   go_wp2_with fail
   have B3:=LH (B2.out.alloc B2.out.size (.cells #[.bool false,.int .i64 ((i:Int)+1)] 193))
   have O3:=LH (heap_alloc_new w2 (.cells #[.bool false,.int .i64 ((i:Int)+1)] 193))
   have O23:=LH ((Below.heap_alloc w2 (.cells #[.bool false,.int .i64 ((i:Int)+1)] 193) w.heap.size (loh O2.out)).trans O2.out)
   have hz3:(w2.alloc (.cells #[.bool false,.int .i64 ((i:Int)+1)] 193)).heap.size=w2.heap.size+1:=by simp
   have hw2:w.heap.size<w2.heap.size:=loh O2.out
   clear c17
   cases cn with
   | false=>
    have HX:Hid (res=({ eg with op:=eg.op++[(false,i+1)] },0)):=LH (by rw [HV3.out,if_neg (by simp)])
    clear HV3
    refine (HCN.out _ B3.out).mono ?_
    rintro e w4 ⟨rfl,hb4⟩
    have B4:=LH (bthen B3.out hb4)
    have O4:=LH ((hb4.block w2.heap.size (by omega)).trans O3.out)
    have c17:=(B4.out.cell (p:=⟨E.g,17,none⟩) hg).trans k17
    have f17:=(H.out.bel B4.out).free 17
    have fa:=(H.out.bel B4.out).free (1+ol * 2)
    have fb:=(H.out.bel B4.out).free (1+ol * 2+1)
    obtain ⟨sb,sl,s0,s1⟩:=HSL.out _ B4.out
    rw [Nat.mul_comm 2 ol] at s0 s1
    have y0:=coh (i:=0) O4.out
    have y1:=coh (i:=1) O4.out
    simp at y0 y1
    have HR:=LH (HPU.out _ B4.out false)
    have HT:=LH ((((Turn.of_below (O:=E.own) B4.out).set E.g (1+2 * ol) (.bool false) (.inl (mem_own.2 (.inl rfl)))).set E.g (1+2 * ol+1) (.int .i64 ((i+1:Nat):Int)) (.inl (mem_own.2 (.inl rfl)))).set E.g 17 (.int .i64 ((ol+1:Nat):Int)) (.inl (mem_own.2 (.inl rfl))))
    rw [show ((ol+1:Nat):Int)=(ol:Int)+1 by omega,show ((i+1:Nat):Int)=(i:Int)+1 by omega,Nat.mul_comm 2 ol] at HR HT
    clear hb4 hz3
    go_wp2_with fail
    go_region
    all_goals (
     go_wp2_with fail
     go_ret
     rw [HX.out]
     exact ⟨rfl,E,E.like_refl,HT.out,fun _=>HR.out.bel ((Below.refl _ _).drew)⟩)
   | true=>
    have HV4:=LH (HV3.out.trans (if_pos rfl))
    clear HV3
    refine (HCN.out _ B3.out).mono ?_
    rintro e w4 ⟨rfl,hb4⟩
    have B4:=LH (bthen B3.out hb4)
    have O4:=LH ((hb4.block w2.heap.size (by omega)).trans O3.out)
    have O24:=LH ((hb4.block w.heap.size (by omega)).trans O23.out)
    have hw4:w2.heap.size<w4.heap.size:=loh O4.out
    have z0:=coh (i:=0) O24.out
    have z1:=coh (i:=1) O24.out
    have z2:=coh (i:=2) O24.out
    have z3:=coh (i:=3) O24.out
    simp at z0 z1 z2 z3
    clear hb4 hz3
    go_wp2_with fail
    refine (HFI.out _ B4.out (by omega)).mono ?_
    rintro e w5 ⟨rfl,hb5⟩
    have B5:=LH (bthen B4.out hb5)
    have O5:=LH ((hb5.block w2.heap.size hw4).trans O4.out)
    have y0:=coh (i:=0) O5.out
    have y1:=coh (i:=1) O5.out
    have x0:=foh (i:=0) O5.out
    simp at y0 y1 x0
    obtain ⟨ev1,ev2⟩:=ev
    simp only at HV4 ⊢
    by_cases hk:ev2=0
    ·subst hk
     have HX:=LH (HV4.out.trans (if_neg (by simp)))
     clear HV4
     have e5:((ev1:Int) != 0)=(ev1 != 0):=by rw [Bool.eq_iff_iff];simp
     generalize (ev1 != 0)=bb at *
     have hw5:w2.heap.size<w5.heap.size:=loh O5.out
     have hgw:E.g≠w2.heap.size:=by omega
     have B6:=LH (B5.out.setCell (p:=⟨w2.heap.size,0,none⟩) (Nat.le_of_lt hw2) (.bool bb))
     have O6:=LH (heap_set (i:=0) (.bool bb) O5.out)
     have B56:=LH (show w5.heap.size=(w5.setCell ⟨w2.heap.size,0,none⟩ (.bool bb)).heap.size by simp)
     go_upto_region 18 with (fail)
     generalize w5.setCell ⟨w2.heap.size,0,none⟩ (.bool bb)=w6 at *
     have c17:=(B6.out.cell (p:=⟨E.g,17,none⟩) hg).trans k17
     have f17:=(H.out.bel B6.out).free 17
     have fa:=(H.out.bel B6.out).free (1+ol * 2)
     have fb:=(H.out.bel B6.out).free (1+ol * 2+1)
     obtain ⟨sb,sl,s0,s1⟩:=HSL.out _ B6.out
     rw [Nat.mul_comm 2 ol] at s0 s1
     have u0:=coh (i:=0) O6.out
     have u1:=coh (i:=1) O6.out
     simp at u0 u1
     have HR:=LH (HPU.out _ B6.out bb)
     have HT:=LH ((((Turn.of_below (O:=E.own) B6.out).set E.g (1+2 * ol) (.bool bb) (.inl (mem_own.2 (.inl rfl)))).set E.g (1+2 * ol+1) (.int .i64 ((i+1:Nat):Int)) (.inl (mem_own.2 (.inl rfl)))).set E.g 17 (.int .i64 ((ol+1:Nat):Int)) (.inl (mem_own.2 (.inl rfl))))
     rw [show ((ol+1:Nat):Int)=(ol:Int)+1 by omega,show ((i+1:Nat):Int)=(i:Int)+1 by omega,Nat.mul_comm 2 ol] at HR HT
     clear y0 y1 x0 hb5
     go_region
     all_goals (
      go_wp2_with fail
      go_ret
      rw [HX.out]
      exact ⟨rfl,E,E.like_refl,HT.out,fun _=>HR.out.bel ((Below.refl _ _).drew)⟩)
    ·have e5:((ev2:Int) != 0)=true:=by rw [bne_iff_ne];omega
     have HX:=LH (HV4.out.trans (if_pos hk))
     have hkk:=LH hk
     clear HV4 hk hb5
     go_wp2_with fail
     go_ret
     rw [HX.out]
     exact EgR.bad ev2 hkk.out (Turn.of_below B5.out)
end Go.Proofs.YtbdnbfacalfciaaGreatDoor
