/- En16. -/
import Derived.Test.YtbdnbfacalfciaaGreatDoorXk
import Derived.Test.YtbdnbfacalfciaaGreatDoorXc
import Derived.Test.YtbdnbfacalfciaaGreatDoorLs
namespace Go.Proofs.YtbdnbfacalfciaaGreatDoor
open Go.RowKit
theorem two_ints {w:World} {b o:Nat} {x y:Int} {T:TypeId} {fr:Nat × Nat} {u:Value} (h:w.heap[b]? = some (.cells #[.int .i64 x,.int .i64 y] T fr)) (hc:w.cell? ⟨b,o,none⟩=some u):u=.int .i64 x∨u=.int .i64 y:=by
 rw [coh h] at hc
 match o,hc with
 | 0,hc=>left;simpa using hc.symm
 | 1,hc=>right;simpa using hc.symm
 | o+2,hc=>simp at hc
theorem BytS.off {w:World} {S:Nat->Prop} {v:Value} {l:List UInt8} {b:Nat} {x y:Int} {T:TypeId} {fr:Nat × Nat} (h:BytS w S v l) (hb:w.heap[b]? = some (.cells #[.int .i64 x,.int .i64 y] T fr)):BytS w (fun k=>S k/\k≠b) v l:=by
 obtain ⟨A,c,h1,h2,h3⟩:=h
 refine ⟨A,c,h1,h2,fun h0=>?_⟩
 obtain ⟨g,o,g1,g2,g3⟩:=h3 h0
 refine ⟨g,o,g1,⟨g2,fun e=>?_⟩,g3⟩
 subst e
 have h4:=g3 0 (bv l[0]) (by rw [List.getElem?_map,List.getElem?_eq_getElem h0];rfl)
 rcases two_ints hb h4 with h5 | h5 <;> (unfold bv at h5;injection h5 with h5;cases h5)
theorem SubAt.off {w:World} {S:Nat->Prop} {v:Value} {l:List Ex} {b:Nat} {x y:Int} {T:TypeId} {fr:Nat × Nat} (h:SubAt w S v l) (hb:w.heap[b]? = some (.cells #[.int .i64 x,.int .i64 y] T fr)):SubAt w (fun k=>S k/\k≠b) v l:=by
 induction h with
 | mk A c sub vs hc hm hz hn hs ih=>
  refine .mk A c sub vs hc hm (fun h0=>?_) hn ih
  obtain ⟨g,o,g1,g2,g3⟩:=hz h0
  refine ⟨g,o,g1,⟨g2,fun e=>?_⟩,g3⟩
  subst e
  have h4:=(g3 0 h0).1
  rcases two_ints hb h4 with h5 | h5 <;> cases h5
theorem EgAt.alien {w:World} {E:EgA} {sec:Bool} {eg:Eg} (h:EgAt w E sec eg) (b:Nat) (hb:b∉E.own) {x y:Int} {T:TypeId} {fr:Nat × Nat} (hx:w.heap[b]? = some (.cells #[.int .i64 x,.int .i64 y] T fr)) (i:Nat) (u:Value):EgAt (w.setCell ⟨b,i,none⟩ u) E sec eg:=by
 have hk:∀ k,k∈E.own->(w.setCell ⟨b,i,none⟩ u).heap[k]? = w.heap[k]?:=fun k hm=>set_block (fun e=>hb (e ▸ hm))
 obtain ⟨raw,h1,h2,h3⟩:=h.cells
 refine ⟨⟨raw,h1,h2,(hk _ (mem_own.2 (.inl rfl))).trans h3⟩,h.few,h.tab.keep (hk _ (mem_own.2 (by simp))) (hk _ (mem_own.2 (by simp))),h.small,h.img.keep (hk _ (mem_own.2 (by simp))),?_,row_keep h.nums (fun k hk2=>hk k (mem_own.2 (by simp [hk2]))),h.place,h.ent⟩
 obtain ⟨vs,r1,r2,r3⟩:=h.rows
 refine ⟨vs,r1,row_keep r2 (fun k hk2=>hk k (mem_own.2 (by simp [hk2]))),fun j hj=>?_⟩
 obtain ⟨bb,s,g1,g2,g3⟩:=r3 j hj
 exact ⟨bb,s,g1,(g2.off hx).keep (fun p hp=>World.cell?_of_block (set_block hp.2)) (fun g hg=>⟨⟨by simpa using hg.1.1.1,hg.1.1.2⟩,hg.1.2⟩),(g3.off hx).keep (fun p hp=>World.cell?_of_block (set_block hp.2)) (fun g hg=>⟨by simpa using hg.1.1,hg.1.2⟩)⟩
theorem eg_one (z:Bool) (b:Nat) (F:Fd) (hF:FdOk F) (E:EgA) (hD:E.D=tonV z b) (sec:Bool) (eg:Eg) (s:St) (hok:okSt s) (v:Value) (i:Nat) (hi:i<=1000000) (w:World) (h:EgAt w E sec eg) (hnl:eg.lines.length<=1000000) (hnu:eg.used.length<=1000000) (hs:StS w E v s.args) (HFI:FindS z b F s E.own w) :
  Calls Tryz.prog 152 #[.pointer (some ⟨E.g,0,none⟩),stV s v,.int .i64 i] w (EgR E sec w (oneA F sec s i eg)):=by
 by_cases hop:s.op=sIF∨s.op=sENDIF
 ·exact eg_one_b F E sec eg s hop hok v i hi w h hs
 ·obtain ⟨lab,colon,op,args⟩:=s
  exact eg_one_c z b F hF E hD sec eg lab colon op args (fun e=>hop (.inl e)) (fun e=>hop (.inr e)) hok v i hi w h hnl hnu hs HFI
def EgPre (w:World) (g tb mb:Nat) (D:Value) (t:Tb):Prop:=(∃ x0 x1 x2 x3 x4 x5 x6 x7 x8 x9 x10 x11 x12 x13 x14 x15 x16 x17 x19 x20 x21 x23 x24 x25 x26 x27:Value,w.heap[g]? = some (.cells #[x0,x1,x2,x3,x4,x5,x6,x7,x8,x9,x10,x11,x12,x13,x14,x15,x16,x17,D,x19,x20,x21,.pointer (some ⟨tb,0,none⟩),x23,x24,x25,x26,x27] 198 (0,0)))/\TabAt w tb mb t/\t.length<=2048
theorem EgAt.pre {w:World} {E:EgA} {sec:Bool} {eg:Eg} (h:EgAt w E sec eg):EgPre w E.g E.tb E.mb E.D eg.syms:=by
 obtain ⟨raw,h1,_,h3⟩:=h.cells
 refine ⟨?_,h.tab,h.small⟩
 match raw,h1 with
 | [r0,r1,r2,r3,r4,r5,r6,r7],_=>exact ⟨_,_,_,_,_,_,_,_,_,_,_,_,_,_,_,_,_,_,_,_,_,_,_,_,_,_,h3⟩
def PassR (O:List Nat) (g tb mb:Nat) (D:Value) (w:World) (sec:Bool) (R:Eg × Nat × Nat) (e:Ending) (w':World):Prop:=
 e=.returned (.agg #[.int .i64 (R.2.1:Nat),.int .i64 (R.2.2:Nat)])/\∃ E':EgA,(E'.g=g/\E'.tb=tb/\E'.mb=mb/\E'.D=D)/\Turn O w E'.own w'/\(R.2.2=0->EgAt w' E' sec R.1)
def PassI (F:Fd) (O:List Nat) (g tb mb:Nat) (D:Value) (w:World) (sec:Bool) (l:List St) (R:Eg × Nat × Nat) (k:Nat) (wr:World):Prop:=
 ∃ (E':EgA) (eg':Eg),(E'.g=g/\E'.tb=tb/\E'.mb=mb/\E'.D=D)/\Turn O w E'.own wr/\EgAt wr E' sec eg'/\passL F sec (l.drop k) k eg'=R/\eg'.lines.length<=k/\eg'.used.length<=k /\
  wr.heap[w.heap.size]? = some (.cells #[.int .i64 0,.int .i64 0] 29 (0,0))/\w.heap.size∉E'.own
theorem eg0_cells (g tb mb im:Nat) (D:Value) (t:Tb) (sec:Bool):egCells ⟨g,tb,mb,im,D,.slice none 0 0,.slice none 0 0⟩ (List.replicate 8 (false,0)) sec (eg0 t ([],false)) = [.int .i64 0,.bool false,.int .i64 0,.bool false,.int .i64 0,.bool false,.int .i64 0,.bool false,.int .i64 0,.bool false,.int .i64 0,.bool false,.int .i64 0,.bool false,.int .i64 0,.bool false,.int .i64 0,.int .i64 0,D,.bool sec,.bool false,.bool false,.pointer (some ⟨tb,0,none⟩),.pointer (some ⟨im,0,none⟩),.int .u16 0,.slice none 0 0,.slice none 0 0,.slice none 0 0]:=rfl
theorem EgAt.fresh {w:World} {g tb mb im:Nat} {D:Value} {t:Tb} {sec:Bool} (h:w.heap[g]? = some (.cells [.int .i64 0,.bool false,.int .i64 0,.bool false,.int .i64 0,.bool false,.int .i64 0,.bool false,.int .i64 0,.bool false,.int .i64 0,.bool false,.int .i64 0,.bool false,.int .i64 0,.bool false,.int .i64 0,.int .i64 0,D,.bool sec,.bool false,.bool false,.pointer (some ⟨tb,0,none⟩),.pointer (some ⟨im,0,none⟩),.int .u16 0,.slice none 0 0,.slice none 0 0,.slice none 0 0].toArray 198 (0,0))) (ht:TabAt w tb mb (forgetT t)) (hl:t.length<=2048) (hi:ImAt w im (fun _=>none)) :
  EgAt w ⟨g,tb,mb,im,D,.slice none 0 0,.slice none 0 0⟩ sec (eg0 t ([],false)):=by
 refine ⟨⟨List.replicate 8 (false,0),rfl,rfl,?_⟩,Nat.zero_le _,ht,Nat.le_trans (forgetT_len t) hl,hi,⟨[],rfl,World.ownsRow_nil _ _ _ _,fun i hi=>absurd hi (by simp [eg0])⟩,World.ownsRow_nil _ _ _ _,by simp [eg0],by simp [eg0]⟩
 rw [eg0_cells]
 exact h
set_option maxHeartbeats 32000000 in
set_option maxRecDepth 100000 in
theorem eg_pass (z:Bool) (b:Nat) (F:Fd) (hF:FdOk F) (O:List Nat) (g tb mb:Nat) (D:Value) (hD:D=tonV z b) (t:Tb) (l:List St) (v:Value) (sec:Bool) (w:World) (h:EgPre w g tb mb D t) (hgO:g∈O) (htO:tb∈O) (hmO:mb∈O) (hO:∀ k,k∈O->k<w.heap.size)
  (hl:l.length<=200000) (hok:∀ s∈l,okSt s) (hs:StAt w (fun k=>k<w.heap.size/\k∉O) v l) (HFI:∀ s∈l,FindS z b F s O w) :
  Calls Tryz.prog 108 #[.pointer (some ⟨g,0,none⟩),v,.bool sec] w (PassR O g tb mb D w sec (passA F sec l t ([],false))):=by
 obtain ⟨⟨x0,x1,x2,x3,x4,x5,x6,x7,x8,x9,x10,x11,x12,x13,x14,x15,x16,x17,x19,x20,x21,x23,x24,x25,x26,x27,hx⟩,htab,ht⟩:=h
 have hg:=loh hx
 replace hF:=LH hF
 replace HFI:=LH HFI
 have HT:=LH htab
 have HS:=LH hs
 obtain ⟨A,c,rfl,hc,hm⟩:=hs.form
 have c0:=coh (i:=0) hx
 have f0:=foh (i:=0) hx
 have c1:=coh (i:=1) hx
 have f1:=foh (i:=1) hx
 have c2:=coh (i:=2) hx
 have f2:=foh (i:=2) hx
 have c3:=coh (i:=3) hx
 have f3:=foh (i:=3) hx
 have c4:=coh (i:=4) hx
 have f4:=foh (i:=4) hx
 have c5:=coh (i:=5) hx
 have f5:=foh (i:=5) hx
 have c6:=coh (i:=6) hx
 have f6:=foh (i:=6) hx
 have c7:=coh (i:=7) hx
 have f7:=foh (i:=7) hx
 have c8:=coh (i:=8) hx
 have f8:=foh (i:=8) hx
 have c9:=coh (i:=9) hx
 have f9:=foh (i:=9) hx
 have c10:=coh (i:=10) hx
 have f10:=foh (i:=10) hx
 have c11:=coh (i:=11) hx
 have f11:=foh (i:=11) hx
 have c12:=coh (i:=12) hx
 have f12:=foh (i:=12) hx
 have c13:=coh (i:=13) hx
 have f13:=foh (i:=13) hx
 have c14:=coh (i:=14) hx
 have f14:=foh (i:=14) hx
 have c15:=coh (i:=15) hx
 have f15:=foh (i:=15) hx
 have c16:=coh (i:=16) hx
 have f16:=foh (i:=16) hx
 have c17:=coh (i:=17) hx
 have f17:=foh (i:=17) hx
 have c19:=coh (i:=19) hx
 have f19:=foh (i:=19) hx
 have c20:=coh (i:=20) hx
 have f20:=foh (i:=20) hx
 have c21:=coh (i:=21) hx
 have f21:=foh (i:=21) hx
 simp at c0 f0 c1 f1 c2 f2 c3 f3 c4 f4 c5 f5 c6 f6 c7 f7 c8 f8 c9 f9 c10 f10 c11 f11 c12 f12 c13 f13 c14 f14 c15 f15 c16 f16 c17 f17 c19 f19 c20 f20 c21 f21
 have H1:=LH (eg_heap (i:=21) (.bool false) (eg_heap (i:=20) (.bool false) (eg_heap (i:=19) (.bool sec) (eg_heap (i:=17) (.int .i64 0) (eg_heap (i:=16) (.int .i64 0) (eg_heap (i:=15) (.bool false) (eg_heap (i:=14) (.int .i64 0) (eg_heap (i:=13) (.bool false) (eg_heap (i:=12) (.int .i64 0) (eg_heap (i:=11) (.bool false) (eg_heap (i:=10) (.int .i64 0) (eg_heap (i:=9) (.bool false) (eg_heap (i:=8) (.int .i64 0) (eg_heap (i:=7) (.bool false) (eg_heap (i:=6) (.int .i64 0) (eg_heap (i:=5) (.bool false) (eg_heap (i:=4) (.int .i64 0) (eg_heap (i:=3) (.bool false) (eg_heap (i:=2) (.int .i64 0) (eg_heap (i:=1) (.bool false) (eg_heap (i:=0) (.int .i64 0) (show w.heap[g]? = some (.cells [x0,x1,x2,x3,x4,x5,x6,x7,x8,x9,x10,x11,x12,x13,x14,x15,x16,x17,D,x19,x20,x21,.pointer (some ⟨tb,0,none⟩),x23,x24,x25,x26,x27].toArray 198 (0,0)) from hx))))))))))))))))))))))
 have T1:=LH (Turn.set (Turn.set (Turn.set (Turn.set (Turn.set (Turn.set (Turn.set (Turn.set (Turn.set (Turn.set (Turn.set (Turn.set (Turn.set (Turn.set (Turn.set (Turn.set (Turn.set (Turn.set (Turn.set (Turn.set (Turn.set (Turn.refl O w) g 0 (.int .i64 0) (.inl hgO)) g 1 (.bool false) (.inl hgO)) g 2 (.int .i64 0) (.inl hgO)) g 3 (.bool false) (.inl hgO)) g 4 (.int .i64 0) (.inl hgO)) g 5 (.bool false) (.inl hgO)) g 6 (.int .i64 0) (.inl hgO)) g 7 (.bool false) (.inl hgO)) g 8 (.int .i64 0) (.inl hgO)) g 9 (.bool false) (.inl hgO)) g 10 (.int .i64 0) (.inl hgO)) g 11 (.bool false) (.inl hgO)) g 12 (.int .i64 0) (.inl hgO)) g 13 (.bool false) (.inl hgO)) g 14 (.int .i64 0) (.inl hgO)) g 15 (.bool false) (.inl hgO)) g 16 (.int .i64 0) (.inl hgO)) g 17 (.int .i64 0) (.inl hgO)) g 19 (.bool sec) (.inl hgO)) g 20 (.bool false) (.inl hgO)) g 21 (.bool false) (.inl hgO))
 have hgt:g≠tb:=fun e=>by subst e;have h1:=htab.1;rw [hx] at h1;revert h1;intro h1;injection h1 with h1;injection h1 with _ h1 _;revert h1;decide
 have hgm:g≠mb:=fun e=>by subst e;obtain ⟨_,D0,⟨es,clock,h1,_⟩,_⟩:=htab;rw [hx] at h1;injection h1 with h1;injection h1
 clear hx htab hs
 have hz1:((((((((((((((((((((((w.setCell ⟨g,0,none⟩ (.int .i64 0)).setCell ⟨g,1,none⟩ (.bool false)).setCell ⟨g,2,none⟩ (.int .i64 0)).setCell ⟨g,3,none⟩ (.bool false)).setCell ⟨g,4,none⟩ (.int .i64 0)).setCell ⟨g,5,none⟩ (.bool false)).setCell ⟨g,6,none⟩ (.int .i64 0)).setCell ⟨g,7,none⟩ (.bool false)).setCell ⟨g,8,none⟩ (.int .i64 0)).setCell ⟨g,9,none⟩ (.bool false)).setCell ⟨g,10,none⟩ (.int .i64 0)).setCell ⟨g,11,none⟩ (.bool false)).setCell ⟨g,12,none⟩ (.int .i64 0)).setCell ⟨g,13,none⟩ (.bool false)).setCell ⟨g,14,none⟩ (.int .i64 0)).setCell ⟨g,15,none⟩ (.bool false)).setCell ⟨g,16,none⟩ (.int .i64 0)).setCell ⟨g,17,none⟩ (.int .i64 0)).setCell ⟨g,19,none⟩ (.bool sec)).setCell ⟨g,20,none⟩ (.bool false)).setCell ⟨g,21,none⟩ (.bool false))).heap.size=w.heap.size:=by simp
 go_enter Tryz.func108, Tryz.ntmps108
 go_upto_region 2 with (fail)
 have HO1:Hid (∀ k,k≠g->((((((((((((((((((((((w.setCell ⟨g,0,none⟩ (.int .i64 0)).setCell ⟨g,1,none⟩ (.bool false)).setCell ⟨g,2,none⟩ (.int .i64 0)).setCell ⟨g,3,none⟩ (.bool false)).setCell ⟨g,4,none⟩ (.int .i64 0)).setCell ⟨g,5,none⟩ (.bool false)).setCell ⟨g,6,none⟩ (.int .i64 0)).setCell ⟨g,7,none⟩ (.bool false)).setCell ⟨g,8,none⟩ (.int .i64 0)).setCell ⟨g,9,none⟩ (.bool false)).setCell ⟨g,10,none⟩ (.int .i64 0)).setCell ⟨g,11,none⟩ (.bool false)).setCell ⟨g,12,none⟩ (.int .i64 0)).setCell ⟨g,13,none⟩ (.bool false)).setCell ⟨g,14,none⟩ (.int .i64 0)).setCell ⟨g,15,none⟩ (.bool false)).setCell ⟨g,16,none⟩ (.int .i64 0)).setCell ⟨g,17,none⟩ (.int .i64 0)).setCell ⟨g,19,none⟩ (.bool sec)).setCell ⟨g,20,none⟩ (.bool false)).setCell ⟨g,21,none⟩ (.bool false))).heap[k]? = w.heap[k]?):=LH (fun k hk=>by simp only [set_block hk])
 generalize (((((((((((((((((((((w.setCell ⟨g,0,none⟩ (.int .i64 0)).setCell ⟨g,1,none⟩ (.bool false)).setCell ⟨g,2,none⟩ (.int .i64 0)).setCell ⟨g,3,none⟩ (.bool false)).setCell ⟨g,4,none⟩ (.int .i64 0)).setCell ⟨g,5,none⟩ (.bool false)).setCell ⟨g,6,none⟩ (.int .i64 0)).setCell ⟨g,7,none⟩ (.bool false)).setCell ⟨g,8,none⟩ (.int .i64 0)).setCell ⟨g,9,none⟩ (.bool false)).setCell ⟨g,10,none⟩ (.int .i64 0)).setCell ⟨g,11,none⟩ (.bool false)).setCell ⟨g,12,none⟩ (.int .i64 0)).setCell ⟨g,13,none⟩ (.bool false)).setCell ⟨g,14,none⟩ (.int .i64 0)).setCell ⟨g,15,none⟩ (.bool false)).setCell ⟨g,16,none⟩ (.int .i64 0)).setCell ⟨g,17,none⟩ (.int .i64 0)).setCell ⟨g,19,none⟩ (.bool sec)).setCell ⟨g,20,none⟩ (.bool false)).setCell ⟨g,21,none⟩ (.bool false))=w1 at *
 have hset:(List.set (List.set (List.set (List.set (List.set (List.set (List.set (List.set (List.set (List.set (List.set (List.set (List.set (List.set (List.set (List.set (List.set (List.set (List.set (List.set (List.set [x0,x1,x2,x3,x4,x5,x6,x7,x8,x9,x10,x11,x12,x13,x14,x15,x16,x17,D,x19,x20,x21,.pointer (some ⟨tb,0,none⟩),x23,x24,x25,x26,x27] 0 (.int .i64 0)) 1 (.bool false)) 2 (.int .i64 0)) 3 (.bool false)) 4 (.int .i64 0)) 5 (.bool false)) 6 (.int .i64 0)) 7 (.bool false)) 8 (.int .i64 0)) 9 (.bool false)) 10 (.int .i64 0)) 11 (.bool false)) 12 (.int .i64 0)) 13 (.bool false)) 14 (.int .i64 0)) 15 (.bool false)) 16 (.int .i64 0)) 17 (.int .i64 0)) 19 (.bool sec)) 20 (.bool false)) 21 (.bool false)) = [.int .i64 0,.bool false,.int .i64 0,.bool false,.int .i64 0,.bool false,.int .i64 0,.bool false,.int .i64 0,.bool false,.int .i64 0,.bool false,.int .i64 0,.bool false,.int .i64 0,.bool false,.int .i64 0,.int .i64 0,D,.bool sec,.bool false,.bool false,.pointer (some ⟨tb,0,none⟩),x23,x24,x25,x26,x27]:=by kernel_rfl
 have H1':Hid (w1.heap[g]? = some (.cells [.int .i64 0,.bool false,.int .i64 0,.bool false,.int .i64 0,.bool false,.int .i64 0,.bool false,.int .i64 0,.bool false,.int .i64 0,.bool false,.int .i64 0,.bool false,.int .i64 0,.bool false,.int .i64 0,.int .i64 0,D,.bool sec,.bool false,.bool false,.pointer (some ⟨tb,0,none⟩),x23,x24,x25,x26,x27].toArray 198 (0,0))):=LH (by rw [← hset];exact H1.out)
 clear hset
 have HZ1:=LH hz1
 clear c0 f0 c1 f1 c2 f2 c3 f3 c4 f4 c5 f5 c6 f6 c7 f7 c8 f8 c9 f9 c10 f10 c11 f11 c12 f12 c13 f13 c14 f14 c15 f15 c16 f16 c17 f17 c19 f19 c20 f20 c21 f21 H1 hz1
 have hN:=imNew_any (w1.alloc (.cells #[.int .i64 0,.int .i64 0] 29))
 have him:(w1.alloc (.cells #[.int .i64 0,.int .i64 0] 29)).heap.size=w.heap.size+1:=by rw [World.size_alloc,HZ1.out]
 generalize hime:(w1.alloc (.cells #[.int .i64 0,.int .i64 0] 29)).heap.size=im at *
 have HN:=LH hN
 have HIME:=LH hime
 clear hN hime
 subst him
 go_wp2_with fail
 refine HN.out.mono ?_
 rintro e w2 ⟨rfl,hw2⟩
 have hz1:=HZ1.out
 have HW2:Hid (w2.heap[g]? = some (.cells [.int .i64 0,.bool false,.int .i64 0,.bool false,.int .i64 0,.bool false,.int .i64 0,.bool false,.int .i64 0,.bool false,.int .i64 0,.bool false,.int .i64 0,.bool false,.int .i64 0,.bool false,.int .i64 0,.int .i64 0,D,.bool sec,.bool false,.bool false,.pointer (some ⟨tb,0,none⟩),x23,x24,x25,x26,x27].toArray 198 (0,0))):=LH (by
  rw [hw2,hao _ _ _ (by rw [World.size_alloc];omega),hao _ _ _ (by omega)]
  exact H1'.out)
 have HP2:Hid (w2.heap[w.heap.size]? = some (.cells #[.int .i64 0,.int .i64 0] 29 (0,0))):=LH (by
  rw [hw2,hao _ _ _ (by rw [World.size_alloc];omega),← hz1]
  exact heap_alloc_new w1 _)
 have HI2:Hid (ImAt w2 (w.heap.size+1) (fun _=>none)):=LH (by
  have:=ImAt.new (w1.alloc (.cells #[.int .i64 0,.int .i64 0] 29))
  rw [HIME.out] at this
  rw [hw2]
  exact this)
 have HO2:Hid (∀ k,k<w.heap.size->k≠g->w2.heap[k]? = w.heap[k]?):=LH (fun k hk hkg=>by
  rw [hw2,hao _ _ _ (by rw [World.size_alloc];omega),hao _ _ _ (by omega)]
  exact HO1.out k hkg)
 have T2:Hid (Turn O w O w2):=LH (by rw [hw2];exact (T1.out.alloc _).alloc _)
 have HZ2:Hid (w2.heap.size=w.heap.size+2):=LH (by rw [hw2,World.size_alloc,HIME.out])
 clear hw2 HN hz1 HZ1 H1' HO1 T1 HIME
 have d22:=coh (i:=22) HW2.out
 have e22:=foh (i:=22) HW2.out
 have d23:=coh (i:=23) HW2.out
 have e23:=foh (i:=23) HW2.out
 have d24:=coh (i:=24) HW2.out
 have e24:=foh (i:=24) HW2.out
 have d25:=coh (i:=25) HW2.out
 have e25:=foh (i:=25) HW2.out
 have d26:=coh (i:=26) HW2.out
 have e26:=foh (i:=26) HW2.out
 have d27:=coh (i:=27) HW2.out
 have e27:=foh (i:=27) HW2.out
 simp at d22 e22 d23 e23 d24 e24 d25 e25 d26 e26 d27 e27
 go_upto_region 3 with (fail)
 have H3:=LH (eg_heap (i:=27) (.slice none 0 0) (eg_heap (i:=26) (.slice none 0 0) (eg_heap (i:=25) (.slice none 0 0) (eg_heap (i:=24) (.int .u16 0) (eg_heap (i:=23) (.pointer (some ⟨w.heap.size+1,0,none⟩)) HW2.out)))))
 have T3:=LH (Turn.set (Turn.set (Turn.set (Turn.set (Turn.set T2.out g 23 (.pointer (some ⟨w.heap.size+1,0,none⟩)) (.inl hgO)) g 24 (.int .u16 0) (.inl hgO)) g 25 (.slice none 0 0) (.inl hgO)) g 26 (.slice none 0 0) (.inl hgO)) g 27 (.slice none 0 0) (.inl hgO))
 have HO3:Hid (∀ k,k≠g->((((((w2.setCell ⟨g,23,none⟩ (.pointer (some ⟨w.heap.size+1,0,none⟩))).setCell ⟨g,24,none⟩ (.int .u16 0)).setCell ⟨g,25,none⟩ (.slice none 0 0)).setCell ⟨g,26,none⟩ (.slice none 0 0)).setCell ⟨g,27,none⟩ (.slice none 0 0))).heap[k]? = w2.heap[k]?):=LH (fun k hk=>by simp only [set_block hk])
 have HZ3:Hid (((((((w2.setCell ⟨g,23,none⟩ (.pointer (some ⟨w.heap.size+1,0,none⟩))).setCell ⟨g,24,none⟩ (.int .u16 0)).setCell ⟨g,25,none⟩ (.slice none 0 0)).setCell ⟨g,26,none⟩ (.slice none 0 0)).setCell ⟨g,27,none⟩ (.slice none 0 0))).heap.size=w2.heap.size):=LH (by simp)
 generalize (((((w2.setCell ⟨g,23,none⟩ (.pointer (some ⟨w.heap.size+1,0,none⟩))).setCell ⟨g,24,none⟩ (.int .u16 0)).setCell ⟨g,25,none⟩ (.slice none 0 0)).setCell ⟨g,26,none⟩ (.slice none 0 0)).setCell ⟨g,27,none⟩ (.slice none 0 0))=w3 at *
 have hset:(List.set (List.set (List.set (List.set (List.set [.int .i64 0,.bool false,.int .i64 0,.bool false,.int .i64 0,.bool false,.int .i64 0,.bool false,.int .i64 0,.bool false,.int .i64 0,.bool false,.int .i64 0,.bool false,.int .i64 0,.bool false,.int .i64 0,.int .i64 0,D,.bool sec,.bool false,.bool false,.pointer (some ⟨tb,0,none⟩),x23,x24,x25,x26,x27] 23 (.pointer (some ⟨w.heap.size+1,0,none⟩))) 24 (.int .u16 0)) 25 (.slice none 0 0)) 26 (.slice none 0 0)) 27 (.slice none 0 0)) = [.int .i64 0,.bool false,.int .i64 0,.bool false,.int .i64 0,.bool false,.int .i64 0,.bool false,.int .i64 0,.bool false,.int .i64 0,.bool false,.int .i64 0,.bool false,.int .i64 0,.bool false,.int .i64 0,.int .i64 0,D,.bool sec,.bool false,.bool false,.pointer (some ⟨tb,0,none⟩),.pointer (some ⟨w.heap.size+1,0,none⟩),.int .u16 0,.slice none 0 0,.slice none 0 0,.slice none 0 0]:=by kernel_rfl
 have H3':Hid (w3.heap[g]? = some (.cells [.int .i64 0,.bool false,.int .i64 0,.bool false,.int .i64 0,.bool false,.int .i64 0,.bool false,.int .i64 0,.bool false,.int .i64 0,.bool false,.int .i64 0,.bool false,.int .i64 0,.bool false,.int .i64 0,.int .i64 0,D,.bool sec,.bool false,.bool false,.pointer (some ⟨tb,0,none⟩),.pointer (some ⟨w.heap.size+1,0,none⟩),.int .u16 0,.slice none 0 0,.slice none 0 0,.slice none 0 0].toArray 198 (0,0))):=LH (by rw [← hset];exact H3.out)
 clear hset
 have htl:=HT.out.lt
 have HT3:=LH (HT.out.keep ((HO3.out tb (Ne.symm hgt)).trans (HO2.out tb htl.1 (Ne.symm hgt))) ((HO3.out mb (Ne.symm hgm)).trans (HO2.out mb htl.2 (Ne.symm hgm))))
 have HFG:=LH (symForget_any tb mb t 3 w3 HT3.out)
 have t22:=coh (i:=22) H3'.out
 simp at t22
 clear H3 d22 e22 d23 e23 d24 e24 d25 e25 d26 e26 d27 e27
 go_wp2_with fail
 refine HFG.out.mono ?_
 rintro e w4 ⟨rfl,htab4,hz4,hk4,hst4⟩
 have hz3:=HZ3.out
 have hz2:=HZ2.out
 have hE0:EgAt w4 ⟨g,tb,mb,(w.heap.size+1),D,.slice none 0 0,.slice none 0 0⟩ sec (eg0 t ([],false)):=EgAt.fresh ((hk4 g (by omega) hgm).trans H3'.out) htab4 ht (HI2.out.keep ((hk4 (w.heap.size+1) (by omega) (by omega)).trans (HO3.out (w.heap.size+1) (by omega))))
 have HE0:=LH hE0
 have HP4:=LH (((hk4 w.heap.size (by omega) (by omega)).trans (HO3.out w.heap.size (by omega))).trans HP2.out)
 have HT4:Hid (Turn O w (EgA.own ⟨g,tb,mb,(w.heap.size+1),D,.slice none 0 0,.slice none 0 0⟩) w4):=LH (by
  have h4:=T3.out.trans (Turn.one (b:=mb) hmO hz4 hk4 hst4)
  refine ⟨h4.1,fun k hk=>?_,h4.2.2.1,h4.2.2.2⟩
  rcases mem_own.1 hk with e | e | e | e | e | e
  ·exact .inl (by rw [show k=g from e];exact hgO)
  ·exact .inl (by rw [show k=tb from e];exact htO)
  ·exact .inl (by rw [show k=mb from e];exact hmO)
  ·right;have e':k=(w.heap.size+1):=e;omega
  ·cases e
  ·cases e)
 have HNO:Hid (w.heap.size∉EgA.own ⟨g,tb,mb,(w.heap.size+1),D,.slice none 0 0,.slice none 0 0⟩):=LH (fun hm=>by
  rcases mem_own.1 hm with e | e | e | e | e | e
  ·have e':w.heap.size=g:=e;omega
  ·have e':w.heap.size=tb:=e;omega
  ·have e':w.heap.size=mb:=e;omega
  ·have e':w.heap.size=(w.heap.size+1):=e;omega
  ·cases e
  ·cases e)
 have HR:Hid (passL F sec (l.drop 0) 0 (eg0 t ([],false))=passA F sec l t ([],false)):=LH rfl
 generalize passA F sec l t ([],false)=R at *
 clear hE0 htab4 hz4 hk4 hst4 hz3 hz2 HFG HT3 HT T3 T2 HO2 HO3 H3' HW2 HP2 HI2 HZ2 HZ3 t22
 go_wp2_with fail
 go_loopw [40] (fun i wr=>∃ k:Nat,k<=l.length/\i=.int .i64 k/\PassI F O g tb mb D w sec l R k wr) (fun i _=>l.length - (intOf i).toNat)
 case atStart=>exact ⟨0,Nat.zero_le _,rfl,_,_,⟨rfl,rfl,rfl,rfl⟩,HT4.out,HE0.out,HR.out,Nat.le_refl _,Nat.le_refl _,HP4.out,HNO.out⟩
 case round=>
  obtain ⟨k,hk,rfl,E',eg',hsame,hT,hE,hR,hnl,hnu,hP,hno⟩:=hrel
  have HE:=LH hE
  have HTW:=LH hT
  have HSM:=LH hsame
  have HPB:=LH hP
  have HNO2:=LH hno
  have hgE:E'.g=g:=hsame.1
  have hwr:w.heap.size<wr.heap.size:=loh hP
  have hgr:g<wr.heap.size:=by rw [← hgE];exact hE.lt
  have kc:=hE.cell
  rw [hgE] at kc
  have k17:=kc.2.1
  have k20:=kc.2.2.2.2.1
  have HST:Hid (StAt wr (fun b=>b<wr.heap.size/\b∉E'.own) (.slice A l.length c) l):=LH (HS.out.keep (fun p hp=>World.cell?_of_block (hT.2.2.1 p.block hp.1 hp.2)) (fun b hb=>⟨Nat.lt_of_lt_of_le hb.1 hT.1,fun hm=>by
   rcases hT.2.1 b hm with h1 | h1
   ·exact hb.2 h1
   ·have:=hb.1;omega⟩))
  have p0:=coh (i:=0) hP
  have p1:=coh (i:=1) hP
  have pf0:=foh (i:=0) hP
  have pf1:=foh (i:=1) hP
  simp at p0 p1 pf0 pf1
  by_cases hlt:k<l.length
  ·have i1:(k:Int)<(l.length:Int):=by omega
   obtain ⟨gs,os,sv,rfl,hgs,s0,s1,s2,s3,harg⟩:=HST.out.get k hlt
   have HR1:=LH (hR.symm.trans (passL_step F sec l k hlt eg'))
   have hok1:=hok _ (List.getElem_mem hlt)
   have HON:=LH (fun W (hW:Below wr.heap.size wr W)=>eg_one z b F hF.out E' (hsame.2.2.2.trans hD) sec eg' l[k] hok1 sv k (by omega) W (hE.bel hW) (by omega) (by omega) (StS.turn harg (Turn.of_below hW)) ((HFI.out _ (List.getElem_mem hlt)).turn (hT.bel hW)))
   have HFEW:=LH (oneA_few F sec l[k] k eg')
   rw [hgE] at HON
   have hsf:=harg.form
   generalize l[k]=s at *
   obtain ⟨sA,sc,rfl,_⟩:=hsf
   unfold stV at HON
   have BS:=LH ((Below.refl wr.heap.size wr).alloc (Nat.le_refl _) (.cells #[.string ⟨s.label.toArray⟩,.bool s.colon,.string ⟨s.op.toArray⟩,.slice sA s.args.length sc] 63))
   clear hE hT hsame hP hno hR kc harg hok1
   cases hdn:eg'.done with
   | true=>
    rw [hdn] at k20
    have HEND:=LH (HR1.out.trans (if_pos hdn))
    clear HR1 HON HFEW
    have HTT:=LH HTW.out
    have RR:Hid (∀ u0 u1 o i,(((wr.setCell ⟨w.heap.size,0,none⟩ u0).setCell ⟨w.heap.size,1,none⟩ u1).alloc o).cell? ⟨w.heap.size,i,none⟩=((wr.setCell ⟨w.heap.size,0,none⟩ u0).setCell ⟨w.heap.size,1,none⟩ u1).cell? ⟨w.heap.size,i,none⟩):=LH (fun u0 u1 o i=>World.cell?_alloc_lt _ _ _ (by simpa using hwr))
    have HEE:Hid (∀ u0 u1:Int,EgAt ((wr.setCell ⟨w.heap.size,0,none⟩ (.int .i64 u0)).setCell ⟨w.heap.size,1,none⟩ (.int .i64 u1)) E' sec eg'):=LH (fun u0 u1=>(HE.out.alien w.heap.size HNO2.out HPB.out 0 (.int .i64 u0)).alien w.heap.size HNO2.out (by rw [heap_set _ HPB.out];rfl) 1 (.int .i64 u1))
    by_cases hop:eg'.op = []
    ·have HX:Hid (R=(eg',0,0)):=LH (HEND.out.trans (by unfold endA;rw [if_neg (by simp [hop])]))
     have hol:eg'.op.length=0:=by rw [hop];rfl
     rw [hol] at k17
     clear hop hol
     go_wp2_with fail
     refine bodyPost_ret (v:=.agg #[.int .i64 0,.int .i64 0]) (by simp [results,Tryz.results108,go_sem,p0,p1,RR.out]) rfl ?_
     rw [HX.out]
     exact ⟨rfl,E',HSM.out,((HTT.out.set w.heap.size 0 _ (.inr (Nat.le_refl _))).set w.heap.size 1 _ (.inr (Nat.le_refl _))).alloc _,fun _=>(HEE.out _ _).bel ((Below.refl _ _).alloc (Nat.le_refl _) _)⟩
    ·obtain ⟨m0,hm0⟩:∃ m0,eg'.op.length=m0+1:=⟨eg'.op.length - 1,by have:=List.length_pos_iff.2 hop;omega⟩
     have hlast:(eg'.op.getLastD (false,0))=eg'.op[m0]'(by omega):=by
      rw [List.getLastD_eq_getLast?,List.getLast?_eq_getElem?,List.getElem?_eq_getElem (by omega)]
      simp [hm0]
     have HX:Hid (R=(eg',(eg'.op[m0]'(by omega)).2,2)):=LH (HEND.out.trans (by unfold endA;rw [if_pos hop,hlast]))
     have ho:=(HE.out.open m0 (by omega)).2
     rw [hgE,Nat.mul_comm 2 m0] at ho
     have hfew:=HE.out.few
     generalize eg'.op[m0]'(by omega)=lo at *
     obtain ⟨lob,lol⟩:=lo
     simp only at ho HX
     rw [hm0] at k17
     have e1:(0:Int)<(m0:Int)+1:=by omega
     have e2:IntKind.i64.wrap ((m0:Int)+1 - 1)=(m0:Int):=by rw [IntWalk.i64_in _ (by omega)];omega
     have e3:(m0:Int)+1 - 1=(m0:Int):=by omega
     have i2:(m0:Int)<8:=by omega
     rw [show ((m0+1:Nat):Int)=(m0:Int)+1 by omega] at k17
     clear hop hm0 hlast hfew
     go_wp2_with fail
     go_region
     all_goals (
      go_wp2_with fail
      refine bodyPost_ret (v:=.agg #[.int .i64 lol,.int .i64 2]) (by simp [results,Tryz.results108,go_sem,p0,p1,RR.out]) rfl ?_
      rw [HX.out]
      exact ⟨rfl,E',HSM.out,(((HTT.out.set w.heap.size 0 _ (.inr (Nat.le_refl _))).set w.heap.size 1 _ (.inr (Nat.le_refl _))).alloc _),fun h=>by cases h⟩)
   | false=>
    rw [hdn] at k20
    have HR2:=LH (HR1.out.trans (if_neg (by rw [hdn];simp)))
    clear HR1
    go_wp2_with fail
    refine (HON.out _ BS.out).mono ?_
    intro e w5 hr
    obtain ⟨rfl,E2,hl2,ht2,hE2⟩:=hr
    generalize oneA F sec s k eg'=on at *
    obtain ⟨eg2,ok⟩:=on
    simp only at HR2 HFEW hE2 ⊢
    have HT5:=LH ((HTW.out.bel BS.out).trans ht2)
    have HP5:=LH ((ht2.2.2.1 w.heap.size (Nat.lt_of_lt_of_le hwr BS.out.size) HNO2.out).trans ((BS.out.block w.heap.size hwr).trans HPB.out))
    have HL5:=LH hl2
    have HE5:=LH hE2
    have HNO5:Hid (w.heap.size∉E2.own):=LH (fun hm=>by
     rcases ht2.2.1 w.heap.size hm with h1 | h1
     ·exact HNO2.out h1
     ·have:=BS.out.size;omega)
    clear hl2 ht2 hE2 s0 s1 s2 s3 p0 p1 pf0 pf1 k17 k20
    by_cases hk0:ok=0
    ·subst hk0
     have HR3:=LH (HR2.out.trans (if_neg (by simp)))
     clear HR2 HON
     go_wp2_with fail
     go_roundw
     case rel=>exact ⟨k+1,by omega,by go_num,E2,eg2,⟨HL5.out.1.trans HSM.out.1,HL5.out.2.1.trans HSM.out.2.1,HL5.out.2.2.1.trans HSM.out.2.2.1,HL5.out.2.2.2.2.trans HSM.out.2.2.2⟩,HT5.out,HE5.out (by first | rfl | trivial),HR3.out.symm,by have:=HFEW.out.1;omega,by have:=HFEW.out.2;omega,HP5.out,HNO5.out⟩
     case measure=>simp [intOf];omega
    ·have e5:((ok:Int) != 0)=true:=by rw [bne_iff_ne];omega
     have HX:=LH (HR2.out.trans (if_pos hk0))
     have hkk:=LH hk0
     have p0:=coh (i:=0) HP5.out
     have p1:=coh (i:=1) HP5.out
     have pf0:=foh (i:=0) HP5.out
     have pf1:=foh (i:=1) HP5.out
     simp at p0 p1 pf0 pf1
     have e6:IntKind.i64.wrap ((k:Int)+1)=(k:Int)+1:=by rw [IntWalk.i64_in _ (by omega)]
     clear HR2 HON hk0
     go_wp2_with fail
     refine bodyPost_ret (v:=.agg #[.int .i64 ((k:Int)+1),.int .i64 ok]) (by simp [results,Tryz.results108,go_sem,p0,p1]) rfl ?_
     rw [HX.out]
     refine ⟨rfl,E2,⟨HL5.out.1.trans HSM.out.1,HL5.out.2.1.trans HSM.out.2.1,HL5.out.2.2.1.trans HSM.out.2.2.1,HL5.out.2.2.2.2.trans HSM.out.2.2.2⟩,(HT5.out.set w.heap.size 0 _ (.inr (Nat.le_refl _))).set w.heap.size 1 _ (.inr (Nat.le_refl _)),fun h=>absurd h hkk.out⟩
  ·obtain rfl:k=l.length:=by omega
   have HEND:Hid (R=endA eg'):=LH (by rw [← hR,List.drop_length];rfl)
   have HTT:=LH hT
   have HEE:Hid (∀ u0 u1:Int,EgAt ((wr.setCell ⟨w.heap.size,0,none⟩ (.int .i64 u0)).setCell ⟨w.heap.size,1,none⟩ (.int .i64 u1)) E' sec eg'):=LH (fun u0 u1=>(hE.alien w.heap.size hno hP 0 (.int .i64 u0)).alien w.heap.size hno (by rw [heap_set _ hP];rfl) 1 (.int .i64 u1))
   clear hE hT hsame hP hno hR kc
   by_cases hop:eg'.op = []
   ·have HX:Hid (R=(eg',0,0)):=LH (HEND.out.trans (by unfold endA;rw [if_neg (by simp [hop])]))
    have hol:eg'.op.length=0:=by rw [hop];rfl
    rw [hol] at k17
    clear hop hol
    go_wp2_with fail
    refine bodyPost_ret (v:=.agg #[.int .i64 0,.int .i64 0]) (by simp [results,Tryz.results108,go_sem,p0,p1]) rfl ?_
    rw [HX.out]
    exact ⟨rfl,E',HSM.out,(HTT.out.set w.heap.size 0 _ (.inr (Nat.le_refl _))).set w.heap.size 1 _ (.inr (Nat.le_refl _)),fun _=>HEE.out _ _⟩
   ·obtain ⟨m0,hm0⟩:∃ m0,eg'.op.length=m0+1:=⟨eg'.op.length - 1,by have:=List.length_pos_iff.2 hop;omega⟩
    have hlast:(eg'.op.getLastD (false,0))=eg'.op[m0]'(by omega):=by
     rw [List.getLastD_eq_getLast?,List.getLast?_eq_getElem?,List.getElem?_eq_getElem (by omega)]
     simp [hm0]
    have HX:Hid (R=(eg',(eg'.op[m0]'(by omega)).2,2)):=LH (HEND.out.trans (by unfold endA;rw [if_pos hop,hlast]))
    have ho:=(HE.out.open m0 (by omega)).2
    rw [hgE,Nat.mul_comm 2 m0] at ho
    have hfew:=HE.out.few
    generalize eg'.op[m0]'(by omega)=lo at *
    obtain ⟨lob,lol⟩:=lo
    simp only at ho HX
    rw [hm0] at k17
    have e1:(0:Int)<(m0:Int)+1:=by omega
    have e2:IntKind.i64.wrap ((m0:Int)+1 - 1)=(m0:Int):=by rw [IntWalk.i64_in _ (by omega)];omega
    have e3:(m0:Int)+1 - 1=(m0:Int):=by omega
    have i2:(m0:Int)<8:=by omega
    rw [show ((m0+1:Nat):Int)=(m0:Int)+1 by omega] at k17
    clear hop hm0 hlast hfew
    go_wp2_with fail
    go_region
    all_goals (
     go_wp2_with fail
     refine bodyPost_ret (v:=.agg #[.int .i64 lol,.int .i64 2]) (by simp [results,Tryz.results108,go_sem,p0,p1]) rfl ?_
     rw [HX.out]
     exact ⟨rfl,E',HSM.out,((HTT.out.set w.heap.size 0 _ (.inr (Nat.le_refl _))).set w.heap.size 1 _ (.inr (Nat.le_refl _))),fun h=>by cases h⟩)
end Go.Proofs.YtbdnbfacalfciaaGreatDoor
