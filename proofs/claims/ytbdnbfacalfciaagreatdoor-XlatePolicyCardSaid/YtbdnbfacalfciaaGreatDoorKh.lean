/- Kh. -/
import Derived.Test.YtbdnbfacalfciaaGreatDoorKe
import Derived.Test.YtbdnbfacalfciaaGreatDoorKd
import Derived.Test.YtbdnbfacalfciaaGreatDoorKa
import Derived.Test.YtbdnbfacalfciaaGreatDoorKb
import Derived.Deep.RegionHeld3
import Derived.IntWalk
import Derived.Test.YtbdnbfacalfciaaGreatDoorKg
namespace Go.Proofs.YtbdnbfacalfciaaGreatDoor
set_option maxRecDepth 100000
set_option maxHeartbeats 4000000
open Go.RowKit
theorem Rd.news (w:World) (cs:List Value) (n:Nat) (T:TypeId):Rd (w.alloc (.cells cs.toArray T)) (w.alloc (.cells cs.toArray T)).heap.size (.slice (some ⟨w.heap.size,0,none⟩) n n) n cs:=by
 refine ⟨_,n,rfl,Nat.le_refl _,fun _=>⟨w.heap.size,0,rfl,by simp,fun j u hu=>?_⟩⟩
 have:=cells_new w cs T j u hu
 rwa [addr_add] at this
theorem show_len23 (e:Ex) (d:Nat) (hd:d<=23) (h:rightE e d=true) (hf:fitE e=true) (w:Nat):(showE e w).length<=260000000:=by
 have h1:=show_len e d h hf w
 have h2:2 ^ d<=2 ^ 23:=Nat.pow_le_pow_right (by omega) hd
 omega
theorem info_s:(Tryz.prog.info? 9).map (fun i=>(i.zero,i.size,i.bytes))=some (some (.string ⟨#[]⟩),1,16):=by kernel_rfl
theorem own_new1 (w:World) (u:Value) (T:TypeId):(w.alloc (.cells #[u] T)).ownsRow w.heap.size T 1 (.slice (some ⟨w.heap.size,0,none⟩) 1 1) 1 [u]:=
 ⟨by simp,.inr ⟨w.heap.size,1,_,rfl,Nat.le_refl _,heap_alloc_new _ _,by simp,by decide,rfl,rfl⟩⟩
theorem strs_one (ls:List (List UInt8)):∀ u∈ls.map strV,u.oneCell'=true:=by
 intro u hu
 obtain ⟨s,_,rfl⟩:=List.mem_map.1 hu
 rfl
def ShowH (x:Ex):Prop:=∀ (d want:Nat) (v:Value) (w:World),d<=24->rightE x d=true->fitE x=true->want<=7->GW w->SubAt w (· < w.heap.size) v x.sub ->
 Calls Tryz.prog 148 #[.agg #[.string ⟨x.op.toArray⟩,.int .u16 x.n,.string ⟨x.name.toArray⟩,v],.int .i64 want] w fun e w'=>e=.returned (.string ⟨(showE x want).toArray⟩)/\Below w.heap.size w w'
theorem show_two_any (o:List UInt8) (r:Nat) (a b:Ex) (d:Nat) (ho:binO o r) (h1:rightE a d=true) (h2:rightE b d=true) (hd:d<=23) (hfa:fitE a=true) (hfb:fitE b=true) (iha:ShowH a) (ihb:ShowH b)
  (want:Nat) (v:Value) (w:World) (hg:GW w) (hs:SubAt w (· < w.heap.size) v [a,b]) :
  Calls Tryz.prog 148 #[.agg #[.string ⟨o.toArray⟩,.int .u16 0,.string ⟨#[]⟩,v],.int .i64 want] w fun e w'=>e=.returned (.string ⟨(showE (.mk o 0 [] [a,b]) want).toArray⟩)/\Below w.heap.size w w':=by
 obtain ⟨A,c,rfl,hc,hm2⟩:=hs.form
 obtain ⟨g,q,va,hA,hgl,a0,a1,a2,a3,hsa,hna,_,_⟩:=hs.get 0 (by simp)
 obtain ⟨g',q',vb,hA',hgl',b0,b1,b2,b3,hsb,hnb,_,_⟩:=hs.get 1 (by simp)
 subst hA
 injection hA' with hA'
 injection hA' with hA' hA'' _
 subst hA' hA''
 obtain ⟨aA,ac,rfl,_,_⟩:=hsa.form
 obtain ⟨bA,bc,rfl,_,_⟩:=hsb.form
 simp only [List.getElem_cons_zero,List.getElem_cons_succ,Nat.zero_mul,Nat.add_zero,Nat.one_mul,Nat.zero_add,List.length_cons,List.length_nil] at a0 a1 a2 a3 b0 b1 b2 b3 hsa hsb hna hnb hc hm2 ⊢
 have HB:=LH (fun W=>binds_any o W)
 obtain ⟨hbo,n1,n2,n3,n4,n5⟩:=ho.binds
 rw [hbo] at HB
 have HSH:=LH (show_two ho a b want)
 have hlen:(showE a r++32 :: (o++32 :: showE b (r+1))).length<=1000000000:=by
  have g1:=show_len23 a d hd h1 hfa r
  have g2:=show_len23 b d hd h2 hfb (r+1)
  have g3:=bin_len ho
  simp
  omega
 have hlen2:(parens (showE a r++32 :: (o++32 :: showE b (r+1)))).length<=1000000000:=by
  have g1:=show_len23 a d hd h1 hfa r
  have g2:=show_len23 b d hd h2 hfb (r+1)
  have g3:=bin_len ho
  rw [parens_len]
  simp
  omega
 have HLEN2:Hid ((List.intercalate [32] [[40],showE a r,o,showE b (r+1),[41]]).length=(parens (showE a r++32 :: (o++32 :: showE b (r+1)))).length):=LH (by simp [parens])
 have HLEN:Hid ((List.intercalate [32] [showE a r,o,showE b (r+1)]).length=(showE a r++32 :: (o++32 :: showE b (r+1))).length):=LH (by simp [List.intercalate])
 generalize showE (.mk o 0 [] [a,b]) want=res at *
 have m1:(o == [35])=false:=by simpa using n1
 have m2:(o == [110])=false:=by simpa using n2
 have hr:=ho.binR
 have hrl:(r:Int)<=5:=by unfold binR at hr;omega
 have hrg:(1:Int)<=(r:Int):=by unfold binR at hr;omega
 have HSA:=LH hsa
 have HSB:=LH hsb
 have HIA:Hid (∀ W,Below w.heap.size w W->W.cell? ⟨w.heap.size,0,none⟩=some (.string ⟨o.toArray⟩)->Calls Tryz.prog 148 #[.agg #[.string ⟨a.op.toArray⟩,.int .u16 a.n,.string ⟨a.name.toArray⟩,.slice aA a.sub.length ac],.int .i64 r] W fun e w'=>e=.returned (.string ⟨(showE a r).toArray⟩)/\Below W.heap.size W w'/\Below w.heap.size w w'/\w.heap.size<W.heap.size):=LH (fun W hW hz=>(iha d r _ W (by omega) h1 hfa (by unfold binR at hr;omega) (hg.below hW) ((HSA.out.bel hW).more (fun x hx=>Nat.lt_of_lt_of_le hx hW.size))).mono (fun _ _ h=>⟨h.1,h.2,bthen hW h.2,World.block_lt_of_cell? _ _ hz⟩))
 have HIB:Hid (∀ W,Below w.heap.size w W->W.cell? ⟨w.heap.size,0,none⟩=some (.string ⟨o.toArray⟩)->Calls Tryz.prog 148 #[.agg #[.string ⟨b.op.toArray⟩,.int .u16 b.n,.string ⟨b.name.toArray⟩,.slice bA b.sub.length bc],.int .i64 ((r:Int)+1)] W fun e w'=>e=.returned (.string ⟨(showE b (r+1)).toArray⟩)/\Below W.heap.size W w'/\Below w.heap.size w w'/\w.heap.size<W.heap.size):=LH (fun W hW hz=>(ihb d (r+1) _ W (by omega) h2 hfb (by unfold binR at hr;omega) (hg.below hW) ((HSB.out.bel hW).more (fun x hx=>Nat.lt_of_lt_of_le hx hW.size))).mono (fun _ _ h=>⟨h.1,h.2,bthen hW h.2,World.block_lt_of_cell? _ _ hz⟩))
 generalize showE a r=sa at *
 generalize showE b (r+1)=sb at *
 clear hs hsa hsb iha ihb hfa hfb h1 h2 hbo n1 n2 n3 n4 n5 hr ho HSA HSB
 go_enter Tryz.func148, Tryz.ntmps148
 go_wp2_with fail
 refine (HB.out _).mono ?_
 rintro e w1 ⟨rfl,rfl⟩
 go_wp2_with fail
 have hwr:IntKind.i64.wrap ((r:Int)+1)=(r:Int)+1:=IntWalk.i64_in _ (by omega)
 have hB0:Below w.heap.size w (w.alloc (.cells #[.string ⟨o.toArray⟩,.int .u16 0,.string ⟨#[]⟩,.slice (some ⟨g,q,none⟩) 2 c] 70)).drew:=((Below.refl _ _).alloc (Nat.le_refl _) _).drew
 go_region_held3 (fun w'=>w'.cell? ⟨w.heap.size,0,none⟩=some (.string ⟨o.toArray⟩)/\w'.cell? ⟨w.heap.size,3,none⟩=some (.slice (some ⟨g,q,none⟩) 2 c) /\
   w'.cell? ⟨g,q,none⟩=some (.string ⟨a.op.toArray⟩)/\w'.cell? ⟨g,q+1,none⟩=some (.int .u16 a.n)/\w'.cell? ⟨g,q+2,none⟩=some (.string ⟨a.name.toArray⟩)/\w'.cell? ⟨g,q+3,none⟩=some (.slice aA a.sub.length ac) /\
   w'.cell? ⟨g,q+4,none⟩=some (.string ⟨b.op.toArray⟩)/\w'.cell? ⟨g,q+4+1,none⟩=some (.int .u16 b.n)/\w'.cell? ⟨g,q+4+2,none⟩=some (.string ⟨b.name.toArray⟩)/\w'.cell? ⟨g,q+4+3,none⟩=some (.slice bA b.sub.length bc)/\Below w.heap.size w w')
  (first | (go_keep;done) | (refine ⟨?_,?_,?_,?_,?_,?_,?_,?_,?_,?_,?_⟩ <;> first | exact Below.alloc hbw5 hbw5.size _ | go_keep)) (first | (go_at_call 148;go_split_ands;(first | (with_reducible refine (HIA.out _ ?_ ?_).mono ?_) | (with_reducible refine (HIB.out _ ?_ ?_).mono ?_));(assumption);(assumption);rintro e5 w5 ⟨rfl,hb5,hbw5,hz5⟩;obtain ⟨hcc,hff⟩:=bcell hb5;obtain ⟨hcw,hfw⟩:=bcell hbw5))
 all_goals (
  have hbx:=LH hbw5
  clear hcc hff hcw hfw hwr hB0
  by_cases hrw:r<want
  ·have hrw':(r:Int)<(want:Int):=by omega
   rw [if_pos hrw] at HSH
   have ho1:((w5.alloc (.cells #[strV sa,strV o,strV sb] 9)).alloc (.cells #[strV [40]] 9)).ownsRow (w5.heap.size+1) 9 1 (.slice (some ⟨w5.heap.size+1,0,none⟩) 1 1) 1 [strV [40]]:=by have:=own_new1 (w5.alloc (.cells #[strV sa,strV o,strV sb] 9)) (strV [40]) 9;rwa [World.size_alloc] at this
   have hr1:Rd ((w5.alloc (.cells #[strV sa,strV o,strV sb] 9)).alloc (.cells #[strV [40]] 9)) (w5.heap.size+1) (.slice (some ⟨w5.heap.size,0,none⟩) 3 3) 3 [strV sa,strV o,strV sb]:=((Rd.news w5 [strV sa,strV o,strV sb] 3 9).keep (fun p hp=>World.cell?_alloc_lt _ _ _ hp)).more (by simp)
   go_wp2_with (at_builtin;refine wpList_append_rd ((w5.alloc (.cells #[strV sa,strV o,strV sb] 9)).alloc (.cells #[strV [40]] 9)) (by rfl) _ _ 103 rfl (w5.heap.size+1) 9 _ 1 16 Tryz.underlying103 info_s rfl (by decide) ho1 rfl hr1 rfl rfl (strs_one [sa,o,sb]) (by omega) (by omega) (by simp) ?_)
   intro v6 w6 ho6 hb6 hgr6
   have hz6:w5.heap.size+2<=w6.heap.size:=by have:=hgr6.size;simpa using this
   clear ho1 hr1 hgr6
   go_wp2_with (at_builtin;refine wpList_append_rd (w6.alloc (.cells #[strV [41]] 9)) (by rfl) _ _ 103 rfl (w5.heap.size+1) 9 _ 1 16 Tryz.underlying103 info_s rfl (by decide) (ho6.alloc _) rfl (Rd.new w6 [strV [41]] _) rfl rfl (strs_one [[41]]) (by omega) (by omega) (by simp;omega) ?_)
   intro v7 w7 ho7 hb7 hgr7
   have R7:Rd w7 w7.heap.size v7 5 ([[40],sa,o,sb,[41]].map strV):=Rd.of_own ho7
   have hz7:w6.heap.size+1<=w7.heap.size:=by have:=hgr7.size;simpa using this
   have hbw7:Below w.heap.size w w7:=(((((hbx.out.alloc hbx.out.size _).alloc (by simp;have:=hbx.out.size;omega) _).trans (hb6.mono (by have:=hbx.out.size;omega))).alloc (by have:=hbx.out.size;omega) _).trans (hb7.mono (by have:=hbx.out.size;omega)))
   clear ho6 ho7 hgr7 hb6 hb7
   go_wp2_with fail
   refine (join_any [[40],sa,o,sb,[41]] [32] v7 w7 R7 (by simp) (by rw [HLEN2.out];exact hlen2)).mono ?_
   rintro e8 w8 ⟨rfl,hb8⟩
   go_wp2_with fail
   go_ret
   rw [HSH.out]
   exact ⟨ret_str (by simp [parens]),bthen hbw7 hb8⟩
  ·have hrw':decide ((r:Int)<(want:Int))=false:=by simp;omega
   have hrw2:decide (r<want)=false:=by simp;omega
   rw [if_neg hrw] at HSH
   go_wp2_with fail
   refine (join_any [sa,o,sb] [32] _ _ (Rd.news w5 [strV sa,strV o,strV sb] 3 9) (by simp) (by rw [HLEN.out];exact hlen)).mono ?_
   rintro e6 w6 ⟨rfl,hb6⟩
   go_wp2_with fail
   go_ret
   rw [HSH.out]
   exact ⟨ret_str (by simp),(hbx.out.alloc hbx.out.size _).trans (hb6.mono (by simp;have:=hbx.out.size;omega))⟩)
theorem rep_neg:Lib.replace [78,69,71] [78,69,71] [45] 1 = [45]:=by decide +kernel
theorem rep_not:Lib.replace [78,79,84] [78,69,71] [45] 1 = [78,79,84]:=by decide +kernel
theorem show_rep (o:List UInt8) (ho:o=sNEG∨o=sNOT) (W:World) (hg:GW W):Calls Tryz.prog 194 #[.string ⟨o.toArray⟩,.string ⟨#[78,69,71]⟩,.string ⟨#[45]⟩,.int .i64 1] W fun e w'=>e=.returned (.string ⟨(if o=sNEG then [45] else o).toArray⟩)/\Below W.heap.size W w':=by
 obtain ⟨m,hm⟩:=hg
 rcases ho with rfl | rfl
 ·refine (Tryz.strings_Replace ⟨#[78,69,71]⟩ ⟨#[78,69,71]⟩ ⟨#[45]⟩ 1 m W (by decide) hm (by decide) (by decide +kernel)).mono ?_
  rintro e w' ⟨rfl,hb⟩
  refine ⟨?_,hb⟩
  show Ending.returned (.string ⟨(Lib.replace [78,69,71] [78,69,71] [45] 1).toArray⟩)=_
  rw [rep_neg];rfl
 ·refine (Tryz.strings_Replace ⟨#[78,79,84]⟩ ⟨#[78,69,71]⟩ ⟨#[45]⟩ 1 m W (by decide) hm (by decide) (by decide +kernel)).mono ?_
  rintro e w' ⟨rfl,hb⟩
  refine ⟨?_,hb⟩
  show Ending.returned (.string ⟨(Lib.replace [78,79,84] [78,69,71] [45] 1).toArray⟩)=_
  rw [rep_not];rfl
def oneO (o:List UInt8) (r:Nat):Prop:=(o=sNEG/\r=6)∨(o=sNOT/\r=3)
theorem show_one {o:List UInt8} {r:Nat} (ho:oneO o r) (a:Ex) (w:Nat):showE (.mk o 0 [] [a]) w=if r<w then parens ((if o=sNEG then [45] else o)++32 :: showE a r) else (if o=sNEG then [45] else o)++32 :: showE a r:=by
 rcases ho with ⟨rfl,rfl⟩ | ⟨rfl,rfl⟩ <;> rfl
theorem show_one_any (o:List UInt8) (r:Nat) (a:Ex) (d:Nat) (ho:oneO o r) (h1:rightE a d=true) (hd:d<=23) (hfa:fitE a=true) (iha:ShowH a)
  (want:Nat) (v:Value) (w:World) (hg:GW w) (hs:SubAt w (· < w.heap.size) v [a]) :
  Calls Tryz.prog 148 #[.agg #[.string ⟨o.toArray⟩,.int .u16 0,.string ⟨#[]⟩,v],.int .i64 want] w fun e w'=>e=.returned (.string ⟨(showE (.mk o 0 [] [a]) want).toArray⟩)/\Below w.heap.size w w':=by
 obtain ⟨A,c,rfl,hc,hm2⟩:=hs.form
 obtain ⟨g,q,va,hA,hgl,a0,a1,a2,a3,hsa,hna,_,_⟩:=hs.get 0 (by simp)
 subst hA
 obtain ⟨aA,ac,rfl,_,_⟩:=hsa.form
 simp only [List.getElem_cons_zero,Nat.zero_mul,Nat.add_zero,Nat.zero_add,List.length_cons,List.length_nil] at a0 a1 a2 a3 hsa hna hc hm2 ⊢
 have HB:=LH (fun W=>binds_any o W)
 have hbo:bindsE o=(r,1):=by rcases ho with ⟨rfl,rfl⟩ | ⟨rfl,rfl⟩ <;> rfl
 rw [hbo] at HB
 have HSH:=LH (show_one ho a want)
 have hrr:r=6∨r=3:=by rcases ho with ⟨_,rfl⟩ | ⟨_,rfl⟩ <;> simp
 have HRP:=LH (fun (W:World) (hW:Below w.heap.size w W) (hz:W.cell? ⟨w.heap.size,0,none⟩=some (.string ⟨o.toArray⟩))=>(show_rep o (ho.imp And.left And.left) W (hg.below hW)).mono (fun _ _ h=>(⟨h.1,h.2,bthen hW h.2,World.block_lt_of_cell? _ _ hz⟩:_/\_/\Below w.heap.size w _/\w.heap.size<W.heap.size)))
 have hrp3:(if o=sNEG then [45] else o).length<=3:=by rcases ho with ⟨rfl,_⟩ | ⟨rfl,_⟩ <;> decide
 generalize (if o=sNEG then [45] else o)=rp at *
 have hlen:(rp++32 :: showE a r).length<=1000000000:=by
  have g1:=show_len23 a d hd h1 hfa r
  simp
  omega
 have hlen2:(parens (rp++32 :: showE a r)).length<=1000000000:=by
  have g1:=show_len23 a d hd h1 hfa r
  rw [parens_len]
  simp
  omega
 have HLEN:Hid ((List.intercalate [32] [rp,showE a r]).length=(rp++32 :: showE a r).length):=LH (by simp)
 have HLEN2:Hid ((List.intercalate [32] [[40],rp,showE a r,[41]]).length=(parens (rp++32 :: showE a r)).length):=LH (by simp [parens])
 generalize showE (.mk o 0 [] [a]) want=res at *
 have m1:(o == [35])=false:=by rcases ho with ⟨rfl,_⟩ | ⟨rfl,_⟩ <;> rfl
 have m2:(o == [110])=false:=by rcases ho with ⟨rfl,_⟩ | ⟨rfl,_⟩ <;> rfl
 have HSA:=LH hsa
 have HIA:Hid (∀ W,Below w.heap.size w W->W.cell? ⟨w.heap.size,0,none⟩=some (.string ⟨o.toArray⟩)->Calls Tryz.prog 148 #[.agg #[.string ⟨a.op.toArray⟩,.int .u16 a.n,.string ⟨a.name.toArray⟩,.slice aA a.sub.length ac],.int .i64 r] W fun e w'=>e=.returned (.string ⟨(showE a r).toArray⟩)/\Below W.heap.size W w'/\Below w.heap.size w w'/\w.heap.size<W.heap.size):=LH (fun W hW hz=>(iha d r _ W (by omega) h1 hfa (by omega) (hg.below hW) ((HSA.out.bel hW).more (fun x hx=>Nat.lt_of_lt_of_le hx hW.size))).mono (fun _ _ h=>⟨h.1,h.2,bthen hW h.2,World.block_lt_of_cell? _ _ hz⟩))
 generalize showE a r=sa at *
 clear hs hsa iha hfa h1 hbo ho HSA
 have hrl:(r:Int)<=6:=by omega
 clear hrr
 go_enter Tryz.func148, Tryz.ntmps148
 go_wp2_with fail
 refine (HB.out _).mono ?_
 rintro e w1 ⟨rfl,rfl⟩
 go_wp2_with fail
 have hB0:Below w.heap.size w (w.alloc (.cells #[.string ⟨o.toArray⟩,.int .u16 0,.string ⟨#[]⟩,.slice (some ⟨g,q,none⟩) 1 c] 70)).drew:=((Below.refl _ _).alloc (Nat.le_refl _) _).drew
 go_region_held3 (fun w'=>w'.cell? ⟨w.heap.size,0,none⟩=some (.string ⟨o.toArray⟩)/\w'.cell? ⟨w.heap.size,3,none⟩=some (.slice (some ⟨g,q,none⟩) 1 c) /\
   w'.cell? ⟨g,q,none⟩=some (.string ⟨a.op.toArray⟩)/\w'.cell? ⟨g,q+1,none⟩=some (.int .u16 a.n)/\w'.cell? ⟨g,q+2,none⟩=some (.string ⟨a.name.toArray⟩)/\w'.cell? ⟨g,q+3,none⟩=some (.slice aA a.sub.length ac)/\Below w.heap.size w w')
  (first | (go_keep;done) | (refine ⟨?_,?_,?_,?_,?_,?_,?_⟩ <;> first | exact Below.alloc hbw5 hbw5.size _ | go_keep)) (first | (go_at_call 148;go_split_ands;(with_reducible refine (HIA.out _ ?_ ?_).mono ?_);(assumption);(assumption);rintro e5 w5 ⟨rfl,hb5,hbw5,hz5⟩;obtain ⟨hcc,hff⟩:=bcell hb5;obtain ⟨hcw,hfw⟩:=bcell hbw5) | (go_at_call 194;go_split_ands;(with_reducible refine (HRP.out _ ?_ ?_).mono ?_);(assumption);(assumption);rintro e5 w5 ⟨rfl,hb5,hbw5,hz5⟩;obtain ⟨hcc,hff⟩:=bcell hb5;obtain ⟨hcw,hfw⟩:=bcell hbw5))
 all_goals (
  have hbx:=LH hbw5
  clear hcc hff hcw hfw hB0
  by_cases hrw:r<want
  ·have hrw':(r:Int)<(want:Int):=by omega
   rw [if_pos hrw] at HSH
   have ho1:((w5.alloc (.cells #[strV rp,strV sa] 9)).alloc (.cells #[strV [40]] 9)).ownsRow (w5.heap.size+1) 9 1 (.slice (some ⟨w5.heap.size+1,0,none⟩) 1 1) 1 [strV [40]]:=by have:=own_new1 (w5.alloc (.cells #[strV rp,strV sa] 9)) (strV [40]) 9;rwa [World.size_alloc] at this
   have hr1:Rd ((w5.alloc (.cells #[strV rp,strV sa] 9)).alloc (.cells #[strV [40]] 9)) (w5.heap.size+1) (.slice (some ⟨w5.heap.size,0,none⟩) 2 2) 2 [strV rp,strV sa]:=((Rd.news w5 [strV rp,strV sa] 2 9).keep (fun p hp=>World.cell?_alloc_lt _ _ _ hp)).more (by simp)
   go_wp2_with (at_builtin;refine wpList_append_rd ((w5.alloc (.cells #[strV rp,strV sa] 9)).alloc (.cells #[strV [40]] 9)) (by rfl) _ _ 103 rfl (w5.heap.size+1) 9 _ 1 16 Tryz.underlying103 info_s rfl (by decide) ho1 rfl hr1 rfl rfl (strs_one [rp,sa]) (by omega) (by omega) (by simp) ?_)
   intro v6 w6 ho6 hb6 hgr6
   have hz6:w5.heap.size+2<=w6.heap.size:=by have:=hgr6.size;simpa using this
   clear ho1 hr1 hgr6
   go_wp2_with (at_builtin;refine wpList_append_rd (w6.alloc (.cells #[strV [41]] 9)) (by rfl) _ _ 103 rfl (w5.heap.size+1) 9 _ 1 16 Tryz.underlying103 info_s rfl (by decide) (ho6.alloc _) rfl (Rd.new w6 [strV [41]] _) rfl rfl (strs_one [[41]]) (by omega) (by omega) (by simp;omega) ?_)
   intro v7 w7 ho7 hb7 hgr7
   have R7:Rd w7 w7.heap.size v7 4 ([[40],rp,sa,[41]].map strV):=Rd.of_own ho7
   have hz7:w6.heap.size+1<=w7.heap.size:=by have:=hgr7.size;simpa using this
   have hbw7:Below w.heap.size w w7:=(((((hbx.out.alloc hbx.out.size _).alloc (by simp;have:=hbx.out.size;omega) _).trans (hb6.mono (by have:=hbx.out.size;omega))).alloc (by have:=hbx.out.size;omega) _).trans (hb7.mono (by have:=hbx.out.size;omega)))
   clear ho6 ho7 hgr7 hb6 hb7
   go_wp2_with fail
   refine (join_any [[40],rp,sa,[41]] [32] v7 w7 R7 (by simp) (by rw [HLEN2.out];exact hlen2)).mono ?_
   rintro e8 w8 ⟨rfl,hb8⟩
   go_wp2_with fail
   go_ret
   rw [HSH.out]
   exact ⟨ret_str (by simp [parens]),bthen hbw7 hb8⟩
  ·have hrw':decide ((r:Int)<(want:Int))=false:=by simp;omega
   have hrw2:decide (r<want)=false:=by simp;omega
   rw [if_neg hrw] at HSH
   go_wp2_with fail
   refine (join_any [rp,sa] [32] _ _ (Rd.news w5 [strV rp,strV sa] 2 9) (by simp) (by rw [HLEN.out];exact hlen)).mono ?_
   rintro e6 w6 ⟨rfl,hb6⟩
   go_wp2_with fail
   go_ret
   rw [HSH.out]
   exact ⟨ret_str (by simp),(hbx.out.alloc hbx.out.size _).trans (hb6.mono (by simp;have:=hbx.out.size;omega))⟩)
theorem show_leaf_num (n want:Nat) (hn:n<=65535) (A:Option Addr) (c:Nat) (w:World) :
  Calls Tryz.prog 148 #[.agg #[.string ⟨#[35]⟩,.int .u16 n,.string ⟨#[]⟩,.slice A 0 c],.int .i64 want] w fun e w'=>e=.returned (.string ⟨(showN n).toArray⟩)/\Below w.heap.size w w':=by
 have HB:Hid (∀ W,Calls Tryz.prog 195 #[.string ⟨#[35]⟩] W fun e w'=>e=.returned (.tuple #[.int .i64 7,.int .i64 0])/\W=w'):=LH (fun W=>binds_any sNum W)
 have HN:=LH (fun W=>show_any n W hn)
 generalize showN n=sn at *
 go_enter Tryz.func148, Tryz.ntmps148
 go_wp2_with fail
 refine (HB.out _).mono ?_
 rintro e w1 ⟨rfl,rfl⟩
 go_wp2_with fail
 refine (HN.out _).mono ?_
 rintro e w2 ⟨rfl,hb2⟩
 go_wp2_with fail
 go_ret
 exact ⟨rfl,((Below.refl _ _).alloc (Nat.le_refl _) _).trans (hb2.mono (by simp))⟩
theorem show_leaf_name (m:List UInt8) (want:Nat) (A:Option Addr) (c:Nat) (w:World) :
  Calls Tryz.prog 148 #[.agg #[.string ⟨#[110]⟩,.int .u16 0,.string ⟨m.toArray⟩,.slice A 0 c],.int .i64 want] w fun e w'=>e=.returned (.string ⟨m.toArray⟩)/\Below w.heap.size w w':=by
 have HB:Hid (∀ W,Calls Tryz.prog 195 #[.string ⟨#[110]⟩] W fun e w'=>e=.returned (.tuple #[.int .i64 7,.int .i64 0])/\W=w'):=LH (fun W=>binds_any sN W)
 go_enter Tryz.func148, Tryz.ntmps148
 go_wp2_with fail
 refine (HB.out _).mono ?_
 rintro e w1 ⟨rfl,rfl⟩
 go_wp2_with fail
 go_ret
 exact ⟨rfl,(Below.refl _ _).alloc (Nat.le_refl _) _⟩
theorem show_leaf_here (want:Nat) (A:Option Addr) (c:Nat) (w:World) :
  Calls Tryz.prog 148 #[.agg #[.string ⟨#[36]⟩,.int .u16 0,.string ⟨#[]⟩,.slice A 0 c],.int .i64 want] w fun e w'=>e=.returned (.string ⟨#[36]⟩)/\Below w.heap.size w w':=by
 have HB:Hid (∀ W,Calls Tryz.prog 195 #[.string ⟨#[36]⟩] W fun e w'=>e=.returned (.tuple #[.int .i64 7,.int .i64 0])/\W=w'):=LH (fun W=>binds_any sHere W)
 go_enter Tryz.func148, Tryz.ntmps148
 go_wp2_with fail
 refine (HB.out _).mono ?_
 rintro e w1 ⟨rfl,rfl⟩
 go_wp2_with fail
 go_ret
 exact ⟨rfl,(Below.refl _ _).alloc (Nat.le_refl _) _⟩
theorem show_all (x:Ex):ShowH x:=by
 induction x using Ex.ind with
 | h o n m s ih=>
  intro d want v w hd hr hf hw hg hs
  have hform:=rightE.form hr
  obtain ⟨A,c,rfl,hc,_⟩:=hs.form
  cases hform with
  | num n d=>
   simp [fitE] at hf
   exact show_leaf_num n want hf.1 A c w
  | name m d=>exact show_leaf_name m want A c w
  | here d=>exact show_leaf_here want A c w
  | neg a d hA=>
   simp [fitE,fitL] at hf
   exact show_one_any sNEG 6 a d (.inl ⟨rfl,rfl⟩) hA (by omega) hf (ih a (by simp)) want _ w hg hs
  | not a d hA=>
   simp [fitE,fitL] at hf
   exact show_one_any sNOT 3 a d (.inr ⟨rfl,rfl⟩) hA (by omega) hf (ih a (by simp)) want _ w hg hs
  | two o r a b d ho h1 h2=>
   simp [fitE,fitL] at hf
   exact show_two_any o r a b d ho h1 h2 (by omega) hf.2.1 hf.2.2 (ih a (by simp)) (ih b (by simp)) want _ w hg hs
def showK (e:Ex):List UInt8:=if rightE e 24 then showE e 1 else []
theorem Show_any (e:Ex) (v:Value) (w:World) (hf:fitE e=true) (hg:GW w) (hs:SubAt w (· < w.heap.size) v e.sub) :
  Calls Tryz.prog 104 #[.agg #[.string ⟨e.op.toArray⟩,.int .u16 e.n,.string ⟨e.name.toArray⟩,v]] w fun r w'=>r=.returned (.tuple #[.string ⟨(showK e).toArray⟩,.int .i64 (rightK e)])/\Below w.heap.size w w':=by
 have HC:=LH (fun o=>Right_any e v (w.alloc o) hf (hs.keep (fun p hp=>World.cell?_alloc_lt _ _ _ hp) (fun g (hg:g<w.heap.size)=>by simp;omega)))
 have HS:Hid (∀ W,rightE e 24=true->Below w.heap.size w W->Calls Tryz.prog 148 #[.agg #[.string ⟨e.op.toArray⟩,.int .u16 e.n,.string ⟨e.name.toArray⟩,v],.int .i64 1] W fun r w'=>r=.returned (.string ⟨(showE e 1).toArray⟩)/\Below W.heap.size W w'):=LH (fun W hr hW=>show_all e 24 1 v W (by omega) hr hf (by omega) (hg.below hW) ((hs.bel hW).more (fun x hx=>Nat.lt_of_lt_of_le hx hW.size)))
 obtain ⟨A,c,rfl,_,_⟩:=hs.form
 have HK:Hid (rightK e=if rightE e 24 then 0 else 2):=LH rfl
 have HT:Hid (showK e=if rightE e 24 then showE e 1 else []):=LH rfl
 generalize rightK e=rk at *
 generalize showK e=sk at *
 clear hs hf
 cases hr:rightE e 24 with
 | true=>
  rw [hr] at HK HT
  have hrk:rk=0:=HK.out
  subst hrk
  have HS':=LH (fun W hW=>HS.out W hr hW)
  clear HS hr HK
  generalize showE e 1=se at *
  go_enter Tryz.func104, Tryz.ntmps104
  go_wp2_with fail
  refine (HC.out _).mono ?_
  rintro e0 w2 ⟨rfl,hb2⟩
  have hbw:Below w.heap.size w w2:=((Below.refl _ _).alloc (Nat.le_refl _) _).trans (hb2.mono (by simp))
  obtain ⟨hcc,hff⟩:=bcell hb2
  go_wp2_with fail
  refine (HS'.out _ hbw).mono ?_
  rintro e0 w3 ⟨rfl,hb3⟩
  clear hcc hff
  go_wp2_with fail
  go_ret2
  rw [HT.out]
  exact ⟨rfl,bthen hbw hb3⟩
 | false=>
  rw [hr] at HK HT
  have hrk:rk=2:=HK.out
  subst hrk
  clear HS hr HK
  go_enter Tryz.func104, Tryz.ntmps104
  go_wp2_with fail
  refine (HC.out _).mono ?_
  rintro e0 w2 ⟨rfl,hb2⟩
  have hbw:Below w.heap.size w w2:=((Below.refl _ _).alloc (Nat.le_refl _) _).trans (hb2.mono (by simp))
  go_wp2_with fail
  go_ret2
  rw [HT.out]
  exact ⟨rfl,hbw⟩
end Go.Proofs.YtbdnbfacalfciaaGreatDoor
