/- Xl. -/
import Derived.Test.YtbdnbfacalfciaaGreatDoorEn16
import Derived.Test.YtbdnbfacalfciaaGreatDoorXc
import Derived.Test.YtbdnbfacalfciaaGreatDoorPureSrc
import Derived.Test.YtbdnbfacalfciaaGreatDoorPureLn5
import Derived.Test.YtbdnbfacalfciaaGreatDoorKo
namespace Go.Proofs.YtbdnbfacalfciaaGreatDoor
set_option maxRecDepth 100000
set_option maxHeartbeats 8000000
open Go.RowKit
def LiRow (w:World) (B:Nat) (v:Value) (ls:List Lin):Prop:=∃ vs:List Value,vs.length=ls.length/\w.ownsRow 0 140 9 v ls.length (rowV liCells ls vs) /\
 ∀ i (hi:i<ls.length),∃ (bv:Value) (sA:Option Addr) (sc:Nat),vs[i]? = some (.agg #[bv,.slice sA ls[i].e.sub.length sc])/\BytS w (fun k=>B<=k/\k<w.heap.size) bv ls[i].b
theorem LiOwn.row {w:World} {g B:Nat} {S:Nat->Prop} {v:Value} {ls:List Lin} (h:LiOwn w g S v ls) (hS:∀ k,S k->k<w.heap.size) (hB:B<=g):LiRow w B v ls:=by
 obtain ⟨vs,h1,h2,h3⟩:=h
 refine ⟨vs,h1,h2,fun i hi=>?_⟩
 obtain ⟨b,s,q1,q2,q3⟩:=h3 i hi
 obtain ⟨sA,sc,rfl,_,_⟩:=q3.form
 exact ⟨b,sA,sc,q1,q2.keep (fun _ _=>rfl) (fun k hk=>⟨by have:=hk.2;omega,hS k hk.1⟩)⟩
theorem LiRow.keep {w w':World} {B:Nat} {v:Value} {ls:List Lin} (h:LiRow w B v ls) (hb:∀ k,v.ownBlock=some k->w'.heap[k]? = w.heap[k]?) (hk:∀ k,B<=k->k<w.heap.size->w'.heap[k]? = w.heap[k]?) (hz:w.heap.size<=w'.heap.size):LiRow w' B v ls:=by
 obtain ⟨vs,h1,h2,h3⟩:=h
 refine ⟨vs,h1,row_keep h2 hb,fun i hi=>?_⟩
 obtain ⟨bv,sA,sc,q1,q2⟩:=h3 i hi
 exact ⟨bv,sA,sc,q1,q2.keep (fun p hp=>World.cell?_of_block (hk _ hp.1 hp.2)) (fun k hk=>⟨hk.1,Nat.lt_of_lt_of_le hk.2 hz⟩)⟩
theorem LiRow.mono {w:World} {B B':Nat} {v:Value} {ls:List Lin} (h:LiRow w B v ls) (hB:B'<=B):LiRow w B' v ls:=by
 obtain ⟨vs,h1,h2,h3⟩:=h
 refine ⟨vs,h1,h2,fun i hi=>?_⟩
 obtain ⟨bv,sA,sc,q1,q2⟩:=h3 i hi
 exact ⟨bv,sA,sc,q1,q2.keep (fun _ _=>rfl) (fun k hk=>⟨Nat.le_trans hB hk.1,hk.2⟩)⟩
def MadeAt (B:Nat) (w:World) (eg:Eg) (pv ev sv lv uv:Value):Prop:=∃ E:EgA,pv=.pointer (some ⟨E.im,0,none⟩)/\ev=.int .u16 eg.entry/\lv=E.lv/\uv=E.uv/\ImAt w E.im (imgL eg.lines) /\
 LiRow w B E.lv eg.lines/\w.ownsRow 0 3 1 E.uv eg.used.length (eg.used.map usV)/\SyRow w B sv eg.syms/\∀ k,k∈E.own->B<=k/\k<w.heap.size
theorem MadeAt.keep {B:Nat} {w w':World} {eg:Eg} {pv ev sv lv uv:Value} (h:MadeAt B w eg pv ev sv lv uv) (hk:∀ k,B<=k->k<w.heap.size->w'.heap[k]? = w.heap[k]?) (hz:w.heap.size<=w'.heap.size):MadeAt B w' eg pv ev sv lv uv:=by
 obtain ⟨E,h1,h2,h3,h4,h5,h6,h7,h9,h8⟩:=h
 have hk2:∀ k,k∈E.own->w'.heap[k]? = w.heap[k]?:=fun k hm=>hk k (h8 k hm).1 (h8 k hm).2
 exact ⟨E,h1,h2,h3,h4,h5.keep (hk2 _ (mem_own.2 (by simp))),h6.keep (fun k hk3=>hk2 k (mem_own.2 (by simp [hk3]))) hk hz,row_keep h7 (fun k hk3=>hk2 k (mem_own.2 (by simp [hk3]))),h9.keep hk,fun k hm=>⟨(h8 k hm).1,Nat.lt_of_lt_of_le (h8 k hm).2 hz⟩⟩
theorem MadeAt.mono {B B':Nat} {w:World} {eg:Eg} {pv ev sv lv uv:Value} (h:MadeAt B w eg pv ev sv lv uv) (hb:B'<=B):MadeAt B' w eg pv ev sv lv uv:=by
 obtain ⟨E,h1,h2,h3,h4,h5,h6,h7,h9,h8⟩:=h
 exact ⟨E,h1,h2,h3,h4,h5,h6.mono hb,h7,h9.mono hb,fun k hm=>⟨Nat.le_trans hb (h8 k hm).1,(h8 k hm).2⟩⟩
theorem MadeAt.bel {B:Nat} {w w':World} {eg:Eg} {pv ev sv lv uv:Value} (h:MadeAt B w eg pv ev sv lv uv) (hb:Below w.heap.size w w'):MadeAt B w' eg pv ev sv lv uv:=h.keep (fun k _ hk=>hb.block k hk) hb.size
theorem MadeAt.off {B:Nat} {w:World} {eg:Eg} {pv ev sv lv uv:Value} (h:MadeAt B w eg pv ev sv lv uv) {b:Nat} (hb:b<B) (i:Nat) (u:Value):MadeAt B (w.setCell ⟨b,i,none⟩ u) eg pv ev sv lv uv:=h.keep (fun k hk _=>set_block (by omega)) (by simp)
theorem MadeAt.drew {B:Nat} {w:World} {eg:Eg} {pv ev sv lv uv:Value} (h:MadeAt B w eg pv ev sv lv uv):MadeAt B w.drew eg pv ev sv lv uv:=h.keep (fun _ _ _=>rfl) (Nat.le_refl _)
theorem EgAt.out {w:World} {E:EgA} {sec:Bool} {eg:Eg} {B:Nat} {sv:Value} (h:EgAt w E sec eg) (i:Nat) (u:Value) (hB:∀ k,k∈E.own->B<=k) (hs:SyRow w B sv eg.syms) (hn:∀ k,sv.ownBlock=some k->k≠E.g):MadeAt B (w.setCell ⟨E.g,i,none⟩ u) eg (.pointer (some ⟨E.im,0,none⟩)) (.int .u16 eg.entry) sv E.lv E.uv:=by
 have ho:=h.owned
 obtain ⟨_,_,a3,_,_,_,a4,a5⟩:=h.apart
 obtain ⟨vs,r1,r2,r3⟩:=h.rows
 have hR:LiRow (w.setCell ⟨E.g,i,none⟩ u) B E.lv eg.lines:=by
  refine ⟨vs,r1,row_keep r2 (fun k hk=>set_block (a4 k hk).1),fun j hj=>?_⟩
  obtain ⟨b,s,q1,q2,q3⟩:=r3 j hj
  obtain ⟨sA,sc,rfl,_,_⟩:=q3.form
  exact ⟨b,sA,sc,q1,q2.keep (fun p hp=>World.cell?_of_block (set_block (by have:=hp.2;omega))) (fun k hk=>⟨by have h1:=hB E.g (mem_own.2 (.inl rfl));have h2:=hk.2;omega,by simpa using hk.1.1⟩)⟩
 exact ⟨E,rfl,rfl,rfl,rfl,h.img.keep (set_block (Ne.symm a3)),hR,row_keep h.nums (fun k hk=>set_block (a5 k hk).1),hs.blk (fun k hk=>set_block (hn k hk)),fun k hk=>⟨hB k hk,by simpa using ho k hk⟩⟩
def RunP (w:World) (R:Eg × Nat × Nat) (e:Ending) (w':World):Prop:=
 ∃ (pa:Option Addr) (n:Int) (sA:Option Addr) (sl sc:Nat) (lA:Option Addr) (ll lc:Nat) (uA:Option Addr) (ul uc:Nat),
  e=.returned (.tuple #[.agg #[.pointer pa,.int .u16 n,.slice sA sl sc,.slice lA ll lc,.slice uA ul uc],.agg #[.int .i64 (R.2.1:Nat),.int .i64 (R.2.2:Nat)]])/\Below w.heap.size w w' /\
  (R.2.2=0->MadeAt w.heap.size w' R.1 (.pointer pa) (.int .u16 n) (.slice sA sl sc) (.slice lA ll lc) (.slice uA ul uc))
theorem RunP.bad {w w':World} {R:Eg × Nat × Nat} (a b:Nat) (h:R.2=(a,b)) (hb0:b≠0) (hb:Below w.heap.size w w'):RunP w R (.returned (.tuple #[.agg #[.pointer none,.int .u16 0,.slice none 0 0,.slice none 0 0,.slice none 0 0],.agg #[.int .i64 (a:Nat),.int .i64 (b:Nat)]])) w':=by
 obtain ⟨eg,r⟩:=R
 simp only at h
 subst h
 exact ⟨none,0,none,0,0,none,0,0,none,0,0,rfl,hb,fun h=>absurd h hb0⟩
theorem symNew_new (w:World):Calls Tryz.prog 107 #[] w fun e w'=>∃ tb mb,e=.returned (.pointer (some ⟨tb,0,none⟩))/\TabAt w' tb mb []/\Below w.heap.size w w'/\w.heap.size<=tb/\w.heap.size<=mb:=
 (symNew_any w).mono (by
  rintro e w' ⟨rfl,rfl⟩
  exact ⟨_,_,rfl,TabAt.new w,((Below.refl _ _).alloc (Nat.le_refl _) _).alloc (by simp) _,by omega,by omega⟩)
theorem StAt.turn {w w':World} {O O':List Nat} {v:Value} {l:List St} (h:StAt w (fun k=>k<w.heap.size/\k∉O) v l) (ht:Turn O w O' w'):StAt w' (fun k=>k<w'.heap.size/\k∉O') v l:=
 h.keep (fun p hp=>World.cell?_of_block (ht.2.2.1 p.block hp.1 hp.2)) (fun b hb=>⟨Nat.lt_of_lt_of_le hb.1 ht.1,fun hm=>by
  rcases ht.2.1 b hm with h1 | h1
  ·exact hb.2 h1
  ·have:=hb.1;omega⟩)
theorem row_slice {w:World} {base size n:Nat} {e:TypeId} {v:Value} {xs:List Value} (h:w.ownsRow base e size v n xs):∃ A m c,v=.slice A m c:=by
 rcases h.2 with ⟨h1,_⟩ | ⟨g,cap,cur,h1,_⟩
 ·exact ⟨_,_,_,h1⟩
 ·exact ⟨_,_,_,h1⟩
theorem idx2_0 (w:World):(Instr.index 199 (.agg #[.bool false,.bool true]) (.int .i64 0)).run Tryz.prog w=.ok (.bool false) w:=by kernel_rfl
theorem idx2_1 (w:World):(Instr.index 199 (.agg #[.bool false,.bool true]) (.int .i64 1)).run Tryz.prog w=.ok (.bool true) w:=by kernel_rfl
def FindB (z:Bool) (b:Nat) (F:Fd) (s:St) (B:Nat) (w:World):Prop:=∀ (W:World) (v:Value) (i:Int),Below B w W->ArAt W (· < W.heap.size) v s.args->Calls Tryz.prog (tonF z) #[tonA z b,stV s v,.int .i64 i] W (FindR (F ([],false) s 0) W)
theorem FindB.s {z:Bool} {b:Nat} {F:Fd} {s:St} {w w1:World} {O:List Nat} (h:FindB z b F s w.heap.size w) (hb:Below w.heap.size w w1) (hO:∀ k,k∈O->w.heap.size<=k):FindS z b F s O w1:=
 fun _O' W v i ht ha=>h W v i (hb.trans (ht.below w.heap.size hO hb.size)) ha
theorem ton_iface (z:Bool) (b:Nat):∃ T u,tonV z b=.iface T u:=by cases z <;> exact ⟨_,_,rfl⟩
theorem run_any (z:Bool) (b:Nat) (F:Fd) (hF:FdOk F) (l:List St) (v:Value) (w:World) (hl:l.length<=200000) (hok:∀ s∈l,okSt s) (hs:StAt w (· < w.heap.size) v l) (HFI:∀ s∈l,FindB z b F s w.heap.size w) :
  Calls Tryz.prog 58 #[v,tonV z b] w (RunP w (runF F l)):=by
 obtain ⟨T,u,hTU⟩:=ton_iface z b
 rw [hTU]
 replace hF:=LH hF
 replace HFI:=LH HFI
 replace hTU:=LH hTU
 have HS:=LH hs
 obtain ⟨A,c,rfl,hc,hm⟩:=hs.form
 have HN:=LH (fun W=>symNew_new W)
 have HRUN:Hid (runF F l=if (passA F false l [] ([],false)).2.2≠0 then passA F false l [] ([],false) else passA F true l (passA F false l [] ([],false)).1.syms ([],false)):=LH rfl
 have HP1:=LH (fun O g tb mb W (hpre:EgPre W g tb mb (.iface T u) []) h1 h2 h3 h4 h5 h6=>eg_pass z b F hF.out O g tb mb _ hTU.out.symm [] l (.slice A l.length c) false W hpre h1 h2 h3 h4 hl hok h5 h6)
 have HP2:=LH (fun t O g tb mb W (hpre:EgPre W g tb mb (.iface T u) t) h1 h2 h3 h4 h5 h6=>eg_pass z b F hF.out O g tb mb _ hTU.out.symm t l (.slice A l.length c) true W hpre h1 h2 h3 h4 hl hok h5 h6)
 generalize runF F l=R at *
 generalize passA F false l [] ([],false)=R1 at *
 obtain ⟨eg1,ln1,lk1⟩:=R1
 simp only at HRUN HP1
 clear hs hok hl
 have B2:=LH (((Below.refl w.heap.size w).alloc (Nat.le_refl _) (.cells #[.pointer none,.int .u16 0,.slice none 0 0,.slice none 0 0,.slice none 0 0] 93)).alloc (by simp) (.cells #[.int .i64 0,.int .i64 0] 29))
 have O0:=LH ((Below.heap_alloc (w.alloc (.cells #[.pointer none,.int .u16 0,.slice none 0 0,.slice none 0 0,.slice none 0 0] 93)) (.cells #[.int .i64 0,.int .i64 0] 29) w.heap.size (by simp)).trans (heap_alloc_new w (.cells #[.pointer none,.int .u16 0,.slice none 0 0,.slice none 0 0,.slice none 0 0] 93)))
 have O1:=LH (heap_alloc_new (w.alloc (.cells #[.pointer none,.int .u16 0,.slice none 0 0,.slice none 0 0,.slice none 0 0] 93)) (.cells #[.int .i64 0,.int .i64 0] 29))
 rw [show (w.alloc (.cells #[.pointer none,.int .u16 0,.slice none 0 0,.slice none 0 0,.slice none 0 0] 93)).heap.size=w.heap.size+1 by simp] at O1
 have ix0:=idx2_0
 have ix1:=idx2_1
 go_enter Tryz.func58, Tryz.ntmps58
 go_wp2_with fail
 refine (HN.out _).mono ?_
 rintro e w3 ⟨tb,mb,rfl,ht3,hb3,htb,hmb⟩
 have HT3:=LH ht3
 have B3:=LH (bthen B2.out hb3)
 have P0:=LH ((hb3.block w.heap.size (by simp;omega)).trans O0.out)
 have P1:=LH ((hb3.block (w.heap.size+1) (by simp)).trans O1.out)
 have htb':w.heap.size+2<=tb:=by simpa using htb
 have hmb':w.heap.size+2<=mb:=by simpa using hmb
 have h3:w.heap.size+1<w3.heap.size:=loh P1.out
 have HLT:=LH ht3.lt
 clear ht3 hb3 htb hmb O0 O1 HN
 go_wp2_with fail
 have HPRE:Hid (EgPre (w3.alloc (.cells #[.int .i64 0,.bool false,.int .i64 0,.bool false,.int .i64 0,.bool false,.int .i64 0,.bool false,.int .i64 0,.bool false,.int .i64 0,.bool false,.int .i64 0,.bool false,.int .i64 0,.bool false,.int .i64 0,.int .i64 0,.iface T u,.bool false,.bool false,.bool false,.pointer (some ⟨tb,0,none⟩),.pointer none,.int .u16 0,.slice none 0 0,.slice none 0 0,.slice none 0 0] 198)) w3.heap.size tb mb (.iface T u) []):=LH ⟨⟨_,_,_,_,_,_,_,_,_,_,_,_,_,_,_,_,_,_,_,_,_,_,_,_,_,_,heap_alloc_new w3 _⟩,HT3.out.keep (Below.heap_alloc _ _ _ HLT.out.1) (Below.heap_alloc _ _ _ HLT.out.2),Nat.zero_le _⟩
 have B4:Hid (Below w.heap.size w (w3.alloc (.cells #[.int .i64 0,.bool false,.int .i64 0,.bool false,.int .i64 0,.bool false,.int .i64 0,.bool false,.int .i64 0,.bool false,.int .i64 0,.bool false,.int .i64 0,.bool false,.int .i64 0,.bool false,.int .i64 0,.int .i64 0,.iface T u,.bool false,.bool false,.bool false,.pointer (some ⟨tb,0,none⟩),.pointer none,.int .u16 0,.slice none 0 0,.slice none 0 0,.slice none 0 0] 198))):=LH (B3.out.alloc B3.out.size _)
 have P04:Hid ((w3.alloc (.cells #[.int .i64 0,.bool false,.int .i64 0,.bool false,.int .i64 0,.bool false,.int .i64 0,.bool false,.int .i64 0,.bool false,.int .i64 0,.bool false,.int .i64 0,.bool false,.int .i64 0,.bool false,.int .i64 0,.int .i64 0,.iface T u,.bool false,.bool false,.bool false,.pointer (some ⟨tb,0,none⟩),.pointer none,.int .u16 0,.slice none 0 0,.slice none 0 0,.slice none 0 0] 198)).heap[w.heap.size]? = _):=LH ((Below.heap_alloc _ _ w.heap.size (by omega)).trans P0.out)
 have P14:Hid ((w3.alloc (.cells #[.int .i64 0,.bool false,.int .i64 0,.bool false,.int .i64 0,.bool false,.int .i64 0,.bool false,.int .i64 0,.bool false,.int .i64 0,.bool false,.int .i64 0,.bool false,.int .i64 0,.bool false,.int .i64 0,.int .i64 0,.iface T u,.bool false,.bool false,.bool false,.pointer (some ⟨tb,0,none⟩),.pointer none,.int .u16 0,.slice none 0 0,.slice none 0 0,.slice none 0 0] 198)).heap[w.heap.size+1]? = _):=LH ((Below.heap_alloc _ _ (w.heap.size+1) h3).trans P1.out)
 have HZ4:Hid ((w3.alloc (.cells #[.int .i64 0,.bool false,.int .i64 0,.bool false,.int .i64 0,.bool false,.int .i64 0,.bool false,.int .i64 0,.bool false,.int .i64 0,.bool false,.int .i64 0,.bool false,.int .i64 0,.bool false,.int .i64 0,.int .i64 0,.iface T u,.bool false,.bool false,.bool false,.pointer (some ⟨tb,0,none⟩),.pointer none,.int .u16 0,.slice none 0 0,.slice none 0 0,.slice none 0 0] 198)).heap.size=w3.heap.size+1):=LH (by simp)
 generalize (w3.alloc (.cells #[.int .i64 0,.bool false,.int .i64 0,.bool false,.int .i64 0,.bool false,.int .i64 0,.bool false,.int .i64 0,.bool false,.int .i64 0,.bool false,.int .i64 0,.bool false,.int .i64 0,.bool false,.int .i64 0,.int .i64 0,.iface T u,.bool false,.bool false,.bool false,.pointer (some ⟨tb,0,none⟩),.pointer none,.int .u16 0,.slice none 0 0,.slice none 0 0,.slice none 0 0] 198))=w4 at *
 have HOO:Hid (∀ k,k∈[w3.heap.size,tb,mb]->w.heap.size+2<=k/\k<w4.heap.size):=LH (fun k hk=>by
  have h1:=HLT.out
  have h2:=HZ4.out
  simp only [List.mem_cons,List.not_mem_nil,or_false] at hk
  rcases hk with rfl | rfl | rfl
  ·omega
  ·omega
  ·omega)
 have HST:Hid (StAt w4 (fun k=>k<w4.heap.size/\k∉[w3.heap.size,tb,mb]) (.slice A l.length c) l):=LH (HS.out.keep (fun p hp=>B4.out.cell hp) (fun g hg=>⟨Nat.lt_of_lt_of_le hg B4.out.size,fun hm=>by
  have h1:=(HOO.out g hm).1
  have h2:g<w.heap.size:=hg
  omega⟩))
 have HC1:=LH (HP1.out [w3.heap.size,tb,mb] w3.heap.size tb mb w4 HPRE.out (by simp) (by simp) (by simp) (fun k hk=>(HOO.out k hk).2) HST.out (fun s hs=>(HFI.out s hs).s B4.out (fun k hk=>Nat.le_trans (by omega) (HOO.out k hk).1)))
 have hw4:w.heap.size+1<w4.heap.size:=loh P14.out
 clear HP1 HPRE HT3 B3 P0 P1 htb' hmb' h3
 refine wp_loop_rounds 3 ?_
 rw [rounds_succ]
 go_wp2_with fail
 refine HC1.out.mono ?_
 intro e w5 hr
 obtain ⟨rfl,E5,hE5n,hT5,hE5⟩:=hr
 simp only at hE5 ⊢
 have B5:=LH (B4.out.trans (hT5.below w.heap.size (fun k hk=>Nat.le_trans (by omega) (HOO.out k hk).1) B4.out.size))
 have P05:=LH ((hT5.2.2.1 w.heap.size (by omega) (fun hm=>by have:=(HOO.out _ hm).1;omega)).trans P04.out)
 have P15:=LH ((hT5.2.2.1 (w.heap.size+1) hw4 (fun hm=>by have:=(HOO.out _ hm).1;omega)).trans P14.out)
 have HT5:=LH hT5
 have HE5:=LH hE5
 have HN5:=LH hE5n
 have hw5:w.heap.size+1<w5.heap.size:=loh P15.out
 have Q05:=LH (fun o=>(Below.heap_alloc w5 o w.heap.size (by omega)).trans P05.out)
 have Q15:=LH (fun o=>(Below.heap_alloc w5 o (w.heap.size+1) hw5).trans P15.out)
 clear hT5 hE5 hE5n HC1 P04 P14 B4 hw4
 by_cases hk:lk1=0
 ·subst hk
  have hEA:=HE5.out rfl
  obtain ⟨g5,tb5,mb5,im5,D5,lv5,uv5⟩:=E5
  obtain ⟨e1,e2,e3,e4⟩:=HN5.out
  simp only at e1 e2 e3 e4
  subst e1 e2 e3 e4
  have HEA:=LH (fun o=>hEA.bel ((Below.refl w5.heap.size w5).alloc (Nat.le_refl _) o))
  have HOW5:Hid (∀ k,k∈EgA.own ⟨w3.heap.size,tb5,mb5,im5,.iface T u,lv5,uv5⟩->w.heap.size+2<=k):=LH (fun k hk=>by
   rcases HT5.out.2.1 k hk with h1 | h1
   ·exact (HOO.out k h1).1
   ·have h2:=(HOO.out w3.heap.size (by simp));omega)
  have HC2:=LH (fun o=>HP2.out eg1.syms (EgA.own ⟨w3.heap.size,tb5,mb5,im5,.iface T u,lv5,uv5⟩) w3.heap.size tb5 mb5 (w5.alloc o) (HEA.out o).pre (mem_own.2 (.inl rfl)) (mem_own.2 (.inr (.inl rfl))) (mem_own.2 (.inr (.inr (.inl rfl)))) (HEA.out o).owned (HST.out.turn (HT5.out.alloc o)) (fun s hs=>(HFI.out s hs).s (B5.out.alloc B5.out.size o) (fun k hk=>Nat.le_trans (by omega) (HOW5.out k hk))))
  have HRR:Hid (R=passA F true l eg1.syms ([],false)):=LH (HRUN.out.trans (if_neg (by simp)))
  have HZZ:Hid ((passA F true l eg1.syms ([],false)).2.2=0->(passA F true l eg1.syms ([],false)).2.1=0):=LH (passL_zero _ _ _ _ _)
  generalize passA F true l eg1.syms ([],false)=R2 at *
  obtain ⟨eg2,ln2,lk2⟩:=R2
  simp only at HC2 HZZ
  clear hEA HE5 HN5 HEA HRUN HP2
  go_wp2_with fail
  rw [rounds_succ]
  go_wp2_with fail
  refine (HC2.out _).mono ?_
  intro e w6 hr
  obtain ⟨rfl,E6,hE6n,hT6,hE6⟩:=hr
  simp only at hE6 ⊢
  have B6:=LH ((B5.out.alloc B5.out.size _).trans (hT6.below w.heap.size (fun k hk=>Nat.le_trans (by omega) (HOW5.out k hk)) (by simp;omega)))
  have P06:=LH ((hT6.2.2.1 w.heap.size (by simp;omega) (fun hm=>by have:=HOW5.out _ hm;omega)).trans (Q05.out _))
  have P16:=LH ((hT6.2.2.1 (w.heap.size+1) (by simp;omega) (fun hm=>by have:=HOW5.out _ hm;omega)).trans (Q15.out _))
  have HOW6:Hid (∀ k,k∈E6.own->w.heap.size+2<=k):=LH (fun k hk=>by
   rcases hT6.2.1 k hk with h1 | h1
   ·exact HOW5.out k h1
   ·simp at h1;omega)
  have HE6:=LH hE6
  have HN6:=LH hE6n
  have hw6:w.heap.size+1<w6.heap.size:=loh P16.out
  have Q06:=LH (fun o=>(Below.heap_alloc w6 o w.heap.size (by omega)).trans P06.out)
  have Q16:=LH (fun o=>(Below.heap_alloc w6 o (w.heap.size+1) hw6).trans P16.out)
  clear hT6 hE6 hE6n HC2 HOW5 HT5 P05 P15 Q05 Q15
  by_cases hk:lk2=0
  ·subst hk
   obtain rfl:ln2=0:=HZZ.out rfl
   have hEB:=HE6.out rfl
   obtain ⟨g6,tb6,mb6,im6,D6,lv6,uv6⟩:=E6
   obtain ⟨e1,e2,e3,e4⟩:=HN6.out
   simp only at e1 e2 e3 e4
   subst e1 e2 e3 e4
   obtain ⟨vs6,_,hrow6,_⟩:=hEB.rows
   obtain ⟨lA,ll,lc,e6⟩:=row_slice hrow6
   obtain ⟨uA,ul,uc,e7⟩:=row_slice hEB.nums
   simp only at e6 e7
   subst e6 e7
   have hgl6:w3.heap.size<w6.heap.size:=hEB.lt
   have HEC:=LH (fun o=>hEB.bel ((Below.refl w6.heap.size w6).alloc (Nat.le_refl _) o))
   have t22:=fun o=>(HEC.out o).cell.2.2.2.2.2.2.1
   have HALL:=LH (fun o=>symAll_any tb6 mb6 eg2.syms (HEC.out o).small (w6.alloc o) (HEC.out o).tab)
   clear hEB HE6 HN6 HZZ HST
   simp only at t22
   go_wp2_with fail
   rw [rounds_succ]
   go_wp2_with fail
   refine (HALL.out _).mono ?_
   rintro e w7 ⟨⟨v7,rfl,hrow7⟩,hb7⟩
   obtain ⟨vA,vl,vc,rfl⟩:=row_slice hrow7.choose_spec.2
   have HSY:=LH hrow7
   have HE7:=LH ((HEC.out _).bel hb7)
   have B7:=LH ((B6.out.alloc B6.out.size _).trans (hb7.mono (by simp;omega)))
   have P07:=LH ((hb7.block w.heap.size (by simp;omega)).trans (Q06.out _))
   have P17:=LH ((hb7.block (w.heap.size+1) (by simp;omega)).trans (Q16.out _))
   obtain ⟨_,_,_,_,_,_,_,q23,q24,q25,q26,q27⟩:=HE7.out.cell
   have f25:=HE7.out.free 25
   simp only at q23 q24 q25 q26 q27 f25
   have r0:=coh (i:=0) P07.out
   have t0:=foh (i:=0) P07.out
   have r1:=coh (i:=1) P07.out
   have t1:=foh (i:=1) P07.out
   have r2:=coh (i:=2) P07.out
   have t2:=foh (i:=2) P07.out
   have r3:=coh (i:=3) P07.out
   have t3:=foh (i:=3) P07.out
   have r4:=coh (i:=4) P07.out
   have t4:=foh (i:=4) P07.out
   have s0:=coh (i:=0) P17.out
   have p0:=foh (i:=0) P17.out
   have s1:=coh (i:=1) P17.out
   have p1:=foh (i:=1) P17.out
   simp at r0 r1 r2 r3 r4 t0 t1 t2 t3 t4 s0 s1 p0 p1
   clear hrow7 hb7 t22 HALL HEC Q06 Q16 P06 P16
   go_wp2_with fail
   refine bodyPost_ret (v:=.tuple #[.agg #[.pointer (some ⟨im6,0,none⟩),.int .u16 eg2.entry,.slice vA vl vc,.slice lA ll lc,.slice uA ul uc],.agg #[.int .i64 0,.int .i64 0]]) (by simp [results,Tryz.results58,go_sem,r0,r1,r2,r3,r4,s0,s1]) rfl ?_
   refine ⟨_,_,vA,vl,vc,lA,ll,lc,uA,ul,uc,by rw [HRR.out];rfl,?_,fun _=>?_⟩
   ·have hg3:=HOW6.out w3.heap.size (mem_own.2 (.inl rfl))
    exact ((((((((B7.out.setCell (by show w.heap.size<=w3.heap.size;omega) _).setCell (Nat.le_refl _) _).setCell (Nat.le_refl _) _).setCell (Nat.le_refl _) _).setCell (Nat.le_refl _) _).setCell (Nat.le_refl _) _).setCell (Nat.le_succ _) _).setCell (Nat.le_succ _) _)
   ·rw [HRR.out]
    have h25:=HE7.out.out 25 (.slice vA vl vc) HOW6.out (HSY.out.mono (by simp;omega)) (fun k hk=>by
     have h1:=(HSY.out.choose_spec.2.lt k hk).1
     simp at h1
     intro e
     have h3:k=w3.heap.size:=e
     omega)
    exact (((((((h25.off (by omega) _ _).off (by omega) _ _).off (by omega) _ _).off (by omega) _ _).off (by omega) _ _).off (by omega) _ _).off (by omega) _ _).mono (by omega)
  ·have HXX:=congrArg (fun x=>x.2) HRR.out
   have e5:((lk2:Int) != 0)=true:=by rw [bne_iff_ne];omega
   have HKK:=LH hk
   have r0:=fun o=>coh (i:=0) (Q06.out o)
   have r1:=fun o=>coh (i:=1) (Q06.out o)
   have r2:=fun o=>coh (i:=2) (Q06.out o)
   have r3:=fun o=>coh (i:=3) (Q06.out o)
   have r4:=fun o=>coh (i:=4) (Q06.out o)
   have t0:=fun o=>foh (i:=0) (Q06.out o)
   have t1:=fun o=>foh (i:=1) (Q06.out o)
   have t2:=fun o=>foh (i:=2) (Q06.out o)
   have t3:=fun o=>foh (i:=3) (Q06.out o)
   have t4:=fun o=>foh (i:=4) (Q06.out o)
   have s0:=fun o=>coh (i:=0) (Q16.out o)
   have s1:=fun o=>coh (i:=1) (Q16.out o)
   have p0:=fun o=>foh (i:=0) (Q16.out o)
   have p1:=fun o=>foh (i:=1) (Q16.out o)
   simp at r0 r1 r2 r3 r4 t0 t1 t2 t3 t4 s0 s1 p0 p1
   clear hk
   go_wp2_with fail
   go_region
   all_goals (
    go_wp2_with fail
    refine bodyPost_ret (v:=.tuple #[.agg #[.pointer none,.int .u16 0,.slice none 0 0,.slice none 0 0,.slice none 0 0],.agg #[.int .i64 ln2,.int .i64 lk2]]) (by simp [results,Tryz.results58,go_sem,r0,r1,r2,r3,r4,s0,s1]) rfl ?_
    refine RunP.bad ln2 lk2 HXX HKK.out ?_
    exact ((((((((B6.out.alloc B6.out.size _).setCell (Nat.le_refl _) _).setCell (Nat.le_refl _) _).setCell (Nat.le_refl _) _).setCell (Nat.le_refl _) _).setCell (Nat.le_refl _) _).setCell (Nat.le_succ _) _).setCell (Nat.le_succ _) _).drew)
 ·have HXX:=HRUN.out.trans (if_pos hk)
  have HXX:=congrArg (fun x=>x.2) HXX
  have e5:((lk1:Int) != 0)=true:=by rw [bne_iff_ne];omega
  have HKK:=LH hk
  have r0:=fun o=>coh (i:=0) (Q05.out o)
  have r1:=fun o=>coh (i:=1) (Q05.out o)
  have r2:=fun o=>coh (i:=2) (Q05.out o)
  have r3:=fun o=>coh (i:=3) (Q05.out o)
  have r4:=fun o=>coh (i:=4) (Q05.out o)
  have t0:=fun o=>foh (i:=0) (Q05.out o)
  have t1:=fun o=>foh (i:=1) (Q05.out o)
  have t2:=fun o=>foh (i:=2) (Q05.out o)
  have t3:=fun o=>foh (i:=3) (Q05.out o)
  have t4:=fun o=>foh (i:=4) (Q05.out o)
  have s0:=fun o=>coh (i:=0) (Q15.out o)
  have s1:=fun o=>coh (i:=1) (Q15.out o)
  have p0:=fun o=>foh (i:=0) (Q15.out o)
  have p1:=fun o=>foh (i:=1) (Q15.out o)
  simp at r0 r1 r2 r3 r4 t0 t1 t2 t3 t4 s0 s1 p0 p1
  clear hk
  go_wp2_with fail
  go_region
  all_goals (
   go_wp2_with fail
   refine bodyPost_ret (v:=.tuple #[.agg #[.pointer none,.int .u16 0,.slice none 0 0,.slice none 0 0,.slice none 0 0],.agg #[.int .i64 ln1,.int .i64 lk1]]) (by simp [results,Tryz.results58,go_sem,r0,r1,r2,r3,r4,s0,s1]) rfl ?_
   refine RunP.bad ln1 lk1 HXX HKK.out ?_
   exact ((((((((B5.out.alloc B5.out.size _).setCell (Nat.le_refl _) _).setCell (Nat.le_refl _) _).setCell (Nat.le_refl _) _).setCell (Nat.le_refl _) _).setCell (Nat.le_refl _) _).setCell (Nat.le_succ _) _).setCell (Nat.le_succ _) _).drew)
theorem endS_good (d:Int) (s:St) (h:(endS d s).2=0):rightS d (endS d s).1=0:=by
 unfold endS at h ⊢
 by_cases h1:rightS d s=0
 ·simp [h1]
 ·rw [if_pos h1] at h;exact absurd h h1
theorem parseS_good (d:Int) (s:List UInt8) (h:(parseS d s).2=0):rightS d (parseS d s).1=0:=by
 unfold parseS at h ⊢
 by_cases h1:knownB d=false
 ·rw [if_pos h1] at h;simp at h
 ·rw [if_neg h1] at h ⊢
  by_cases h2:(lineL s).2≠0
  ·rw [if_pos h2] at h;exact absurd h h2
  ·rw [if_neg h2] at h ⊢
   unfold bodyS at h ⊢
   generalize (headS (lineL s).1).1=lab at *
   generalize (headS (lineL s).1).2.1=colon at *
   generalize (headS (lineL s).1).2.2=r at *
   by_cases h3:r = []
   ·rw [if_pos h3] at h ⊢;exact endS_good d _ h
   ·rw [if_neg h3] at h ⊢
    by_cases h4:nameT r 0=false
    ·rw [if_pos h4] at h;simp at h
    ·rw [if_neg h4] at h ⊢
     by_cases h5:32<(cutL [44] (r.drop 1)).length
     ·rw [if_pos h5] at h;simp at h
     ·rw [if_neg h5] at h ⊢
      by_cases h6:(argsL d (r.getD 0 tok0).2.1 (cutL [44] (r.drop 1)) []).2≠0
      ·rw [if_pos h6] at h;exact absurd h h6
      ·rw [if_neg h6] at h ⊢;exact endS_good d _ h
theorem readL_all {σ:Type} (p:List UInt8->σ × Nat) (P:σ->Prop) (a:List (List UInt8)) (h:∀ l,(p l).2=0->P (p l).1):∀ i acc,(∀ x∈acc,P x)->∀ x∈(readL p a i acc).1,P x:=by
 induction a with
 | nil=>intro i acc hacc;simpa [readL] using hacc
 | cons l r ih=>
  intro i acc hacc
  unfold readL
  split
  ·simp
  ·next h1=>
   refine ih _ _ (fun x hx=>?_)
   rcases List.mem_append.1 hx with hx | hx
   ·exact hacc x hx
   ·simp at hx;subst hx;exact h l (by omega)
theorem srcS_good (d:Int) (s:List UInt8):∀ x∈(srcS d s).1,rightS d x=0/\fitS x:=by
 unfold srcS
 split
 ·simp
 ·split
  ·simp
  ·exact readL_all (parseCr d) (fun x=>rightS d x=0/\fitS x) _ (fun l h=>⟨parseS_good d _ h,parse_fitS d _⟩) 0 [] (by simp)
theorem src_okSt (d:Int) (s:List UInt8):∀ x∈(srcS d s).1,okSt x:=by
 intro x hx
 obtain ⟨h1,h2,h3,h4⟩:=srcS_good d s x hx
 exact ⟨h2,fun a ha=>⟨(h4 a ha).2.1,(h4 a ha).2.2⟩⟩
theorem src_few (d:Int) (s:List UInt8):∀ x∈(srcS d s).1,x.args.length<=1000:=by
 intro x hx
 have:=(rightS.form (srcS_good d s x hx).1).few
 omega
theorem asm1_enter (args:Array Value) (W:World):(callFunc 26 args).run Tryz.prog W=.ok (.enter 26 args) W:=enters_of Tryz.func26 (by kernel_rfl) rfl args W
theorem asm2_enter (args:Array Value) (W:World):(callFunc 27 args).run Tryz.prog W=.ok (.enter 27 args) W:=enters_of Tryz.func27 (by kernel_rfl) rfl args W
theorem asm1_any (n:Int) (w:World):Calls Tryz.prog 26 #[.int .i64 n] w fun e w'=>e=.returned (.iface 99 (.agg #[]))/\w=w':=by
 go_enter Tryz.func26, Tryz.ntmps26
 go_wp2_with fail
 go_ret
 exact ⟨rfl,rfl⟩
theorem asm2_any (w:World):Calls Tryz.prog 27 #[] w fun e w'=>e=.returned (.bool false)/\w=w':=by
 go_enter Tryz.func27, Tryz.ntmps27
 go_wp2_with fail
 go_ret
 exact ⟨rfl,rfl⟩
def RunB (B:Nat) (w:World) (R:Eg × Nat × Nat) (e:Ending) (w':World):Prop:=
 ∃ (pa:Option Addr) (n:Int) (sA:Option Addr) (sl sc:Nat) (lA:Option Addr) (ll lc:Nat) (uA:Option Addr) (ul uc:Nat),
  e=.returned (.tuple #[.agg #[.pointer pa,.int .u16 n,.slice sA sl sc,.slice lA ll lc,.slice uA ul uc],.agg #[.int .i64 (R.2.1:Nat),.int .i64 (R.2.2:Nat)]])/\Below B w w' /\
  (R.2.2=0->MadeAt w.heap.size w' R.1 (.pointer pa) (.int .u16 n) (.slice sA sl sc) (.slice lA ll lc) (.slice uA ul uc))
theorem RunB.bad {B:Nat} {w w':World} {R:Eg × Nat × Nat} (a b:Nat) (h:R.2=(a,b)) (hb0:b≠0) (hb:Below B w w'):RunB B w R (.returned (.tuple #[.agg #[.pointer none,.int .u16 0,.slice none 0 0,.slice none 0 0,.slice none 0 0],.agg #[.int .i64 (a:Nat),.int .i64 (b:Nat)]])) w':=by
 obtain ⟨eg,r⟩:=R
 simp only at h
 subst h
 exact ⟨none,0,none,0,0,none,0,0,none,0,0,rfl,hb,fun h=>absurd h hb0⟩
theorem FindB.grow {z:Bool} {b:Nat} {F:Fd} {s:St} {B:Nat} {w w1:World} (h:FindB z b F s B w) (hb:Below B w w1) (hB:B<=w.heap.size):FindB z b F s w1.heap.size w1:=
 fun W v i hW ha=>h W v i (hb.trans (hW.mono (Nat.le_trans hB hb.size))) ha
theorem esrc_any (d:Int) (z:Bool) (b:Nat) (F:Fd) (hF:FdOk F) (O:List Nat) (B:Nat) (Q:World->Prop) (hQ:∀ W W':World,(∀ k,k∈O->W'.heap[k]? = W.heap[k]?)->Q W->Q W') (K1 K2:FuncId) (c1 c2:Array Value)
  (hn1:∀ args W,(callFunc K1 args).run Tryz.prog W=.ok (.enter K1 args) W) (hn2:∀ args W,(callFunc K2 args).run Tryz.prog W=.ok (.enter K2 args) W)
  (s:List UInt8) (w:World) (hg:GWL w) (hl:s.length<=100000) (hO:∀ k,k∈O->B<=k/\k<w.heap.size) (hB:B<=w.heap.size) (hq:Q w) (HFI:∀ x∈(srcS d s).1,FindB z b F x B w)
  (H1:∀ (n:Nat) (W:World),n<=1000000->Q W->Calls Tryz.prog K1 (#[.int .i64 (n:Nat)]++c1) W fun e W'=>e=.returned (tonV z b)/\Turn O W O W'/\Q W')
  (H2:∀ W,Q W->Calls Tryz.prog K2 c2 W fun e W'=>e=.returned (.bool false)/\Turn O W O W') :
  Calls Tryz.prog 25 #[.int .i64 d,.string ⟨s.toArray⟩,.func (.func K1) #[] c1,.func (.func K2) #[] c2] w (RunB B w (asmF F d s)):=by
 have HSR:=LH (fun W (hW:GWL W)=>src12_any d s W hW hl _ rfl)
 have HA:Hid (asmF F d s=if (srcS d s).2.2≠0 then (eg1,(srcS d s).2) else runF F (srcS d s).1):=LH rfl
 have HRU:=LH (fun v W hs hf=>run_any z b F hF (srcS d s).1 v W (by have:=src_len d s hl;omega) (src_okSt d s) hs hf)
 replace HFI:=LH HFI
 replace H1:=LH H1
 replace H2:=LH H2
 replace hQ:=LH hQ
 replace hq:=LH hq
 replace hO:=LH hO
 replace hB:=LH hB
 obtain ⟨T,u,hTU⟩:=ton_iface z b
 replace hTU:=LH hTU
 have hlen:=src_len d s hl
 generalize asmF F d s=R at *
 generalize runF F (srcS d s).1=RR at *
 generalize srcS d s=res at *
 obtain ⟨l,ln,lk⟩:=res
 simp only at HA HRU hlen HFI
 have B2:=LH (((Below.refl w.heap.size w).alloc (Nat.le_refl _) (.cells #[.pointer none,.int .u16 0,.slice none 0 0,.slice none 0 0,.slice none 0 0] 93)).alloc (by simp) (.cells #[.int .i64 0,.int .i64 0] 29))
 have O0:=LH ((Below.heap_alloc (w.alloc (.cells #[.pointer none,.int .u16 0,.slice none 0 0,.slice none 0 0,.slice none 0 0] 93)) (.cells #[.int .i64 0,.int .i64 0] 29) w.heap.size (by simp)).trans (heap_alloc_new w (.cells #[.pointer none,.int .u16 0,.slice none 0 0,.slice none 0 0,.slice none 0 0] 93)))
 have O1:=LH (heap_alloc_new (w.alloc (.cells #[.pointer none,.int .u16 0,.slice none 0 0,.slice none 0 0,.slice none 0 0] 93)) (.cells #[.int .i64 0,.int .i64 0] 29))
 rw [show (w.alloc (.cells #[.pointer none,.int .u16 0,.slice none 0 0,.slice none 0 0,.slice none 0 0] 93)).heap.size=w.heap.size+1 by simp] at O1
 go_enter Tryz.func25, Tryz.ntmps25
 go_wp2_with fail
 refine (HSR.out _ (hg.below B2.out)).mono ?_
 rintro e w3 ⟨v,rfl,hst,hb3⟩
 simp only at hst
 obtain ⟨A,c,rfl,hc,hm⟩:=hst.form
 have HST:=LH hst
 have B3:=LH (bthen B2.out hb3)
 have P0:=LH ((hb3.block w.heap.size (by simp;omega)).trans O0.out)
 have P1:=LH ((hb3.block (w.heap.size+1) (by simp)).trans O1.out)
 have h3:w.heap.size+1<w3.heap.size:=loh P1.out
 clear hst hb3 O0 O1 B2 HSR
 simp only
 have Q03:=LH (fun o=>(Below.heap_alloc w3 o w.heap.size (by omega)).trans P0.out)
 have Q13:=LH (fun o=>(Below.heap_alloc w3 o (w.heap.size+1) h3).trans P1.out)
 by_cases hk:lk=0
 ·subst hk
  have HX:Hid (R=RR):=LH (HA.out.trans (if_neg (by simp)))
  have HNB:Hid (∀ k,k∈O->k<w.heap.size):=LH (fun k hk=>(hO.out k hk).2)
  have HOQ:Hid (∀ (o:Obj) k,k∈O->(w3.alloc o).heap[k]? = w.heap[k]?):=LH (fun o k hk=>(Below.heap_alloc w3 o k (by have:=HNB.out k hk;omega)).trans (B3.out.block k (HNB.out k hk)))
  clear HA
  go_wp2_with fail
  refine (H1.out l.length _ (by omega) (hQ.out w _ (HOQ.out _) hq.out)).mono ?_
  rintro e w4 ⟨rfl,hT4,hq4⟩
  have HT4:=LH hT4
  have HQ4:=LH hq4
  have P04:=LH ((hT4.2.2.1 w.heap.size (by simp;omega) (fun hm=>by have:=HNB.out _ hm;omega)).trans (Q03.out _))
  have P14:=LH ((hT4.2.2.1 (w.heap.size+1) (by simp;omega) (fun hm=>by have:=HNB.out _ hm;omega)).trans (Q13.out _))
  have hz43:w3.heap.size+1<=w4.heap.size:=by have:=hT4.1;simpa using this
  have B4:=LH (((B3.out.alloc B3.out.size _).mono hB.out).trans (hT4.below B (fun k hk=>(hO.out k hk).1) (by have:=hB.out;simp;omega)))
  have HST4:Hid (StAt w4 (· < w4.heap.size) (.slice A l.length c) l):=LH (HST.out.keep (fun p hp=>(World.cell?_of_block (hT4.2.2.1 p.block (by have:=hp.2;simp;omega) (fun hm=>by have h1:=HNB.out _ hm;have h2:=hp.1;simp at h2;omega))).trans (World.cell?_alloc_lt _ _ _ hp.2)) (fun g hg=>by have:=hg.2;omega))
  have HRUN:=LH (HRU.out (.slice A l.length c) w4 HST4.out (fun x hx=>(HFI.out x hx).grow B4.out hB.out))
  rw [hTU.out] at HRUN ⊢
  clear HRU HST HST4 hT4 hq4 HFI H1 Q03 Q13
  go_wp2_with fail
  refine wp_loop_rounds 1 ?_
  rw [rounds_succ]
  go_wp2_with fail
  refine HRUN.out.mono ?_
  rintro e w5 ⟨pa,nn,sA,sl,sc,lA,ll,lc,uA,ul,uc,rfl,hb5,hmade⟩
  have B5:=LH (B4.out.trans (hb5.mono (by have:=hB.out;omega)))
  have P05:=LH ((hb5.block w.heap.size (by omega)).trans P04.out)
  have P15:=LH ((hb5.block (w.heap.size+1) (by omega)).trans P14.out)
  have hw5:w.heap.size+1<w5.heap.size:=loh P15.out
  have hz53:w3.heap.size+1<=w5.heap.size:=by have:=hb5.size;omega
  have HQ5:Hid (∀ o o',Q ((w5.alloc o).alloc o')):=LH (fun o o'=>hQ.out w4 _ (fun k hk=>(Below.heap_alloc _ o' k (by have:=HNB.out k hk;simp;omega)).trans ((Below.heap_alloc w5 o k (by have:=HNB.out k hk;omega)).trans (hb5.block k (by have:=HNB.out k hk;omega)))) HQ4.out)
  have Q05:=LH (fun o o'=>(Below.heap_alloc (w5.alloc o) o' w.heap.size (by simp;omega)).trans ((Below.heap_alloc w5 o w.heap.size (by omega)).trans P05.out))
  have Q15:=LH (fun o o'=>(Below.heap_alloc (w5.alloc o) o' (w.heap.size+1) (by simp;omega)).trans ((Below.heap_alloc w5 o (w.heap.size+1) hw5).trans P15.out))
  have HM:=LH hmade
  obtain ⟨eg2,ln2,lk2⟩:=RR
  simp only at HM ⊢
  clear hb5 hmade HRUN P04 P14
  by_cases hk:lk2=0
  ·subst hk
   go_wp2_with fail
   refine (H2.out _ (HQ5.out _ _)).mono ?_
   rintro e w6 ⟨rfl,hT6⟩
   have HT6:=LH hT6
   have hz6:w5.heap.size+2<=w6.heap.size:=by have:=hT6.1;simp at this;omega
   have R0:=LH ((hT6.2.2.1 w.heap.size (by simp;omega) (fun hm=>by have:=HNB.out _ hm;omega)).trans (Q05.out _ _))
   have R1:=LH ((hT6.2.2.1 (w.heap.size+1) (by simp;omega) (fun hm=>by have:=HNB.out _ hm;omega)).trans (Q15.out _ _))
   have N0:=LH ((hT6.2.2.1 w5.heap.size (by simp;omega) (fun hm=>by have:=HNB.out _ hm;omega)).trans ((Below.heap_alloc _ _ _ (by simp)).trans (heap_alloc_new w5 _)))
   have N1:=LH ((hT6.2.2.1 (w5.heap.size+1) (by simp) (fun hm=>by have:=HNB.out _ hm;omega)).trans (heap_last (by simp) _))
   have B6:=LH (((B5.out.alloc (by have:=hB.out;omega) _).alloc (by have:=hB.out;simp;omega) _).trans (hT6.below B (fun k hk=>(hO.out k hk).1) (by have:=hB.out;simp;omega)))
   have M6:=LH (((((HM.out (by first | rfl | trivial)).bel ((Below.refl w5.heap.size w5).alloc (Nat.le_refl _) _)).bel ((Below.refl _ _).alloc (Nat.le_refl _) _)).keep (fun k hk1 hk2=>hT6.2.2.1 k hk2 (fun hm=>by have:=HNB.out _ hm;omega)) hT6.1))
   have r0:=coh (i:=0) R0.out
   have t0:=foh (i:=0) R0.out
   have r1:=coh (i:=1) R0.out
   have t1:=foh (i:=1) R0.out
   have r2:=coh (i:=2) R0.out
   have t2:=foh (i:=2) R0.out
   have r3:=coh (i:=3) R0.out
   have t3:=foh (i:=3) R0.out
   have r4:=coh (i:=4) R0.out
   have t4:=foh (i:=4) R0.out
   have s0:=coh (i:=0) R1.out
   have p0:=foh (i:=0) R1.out
   have s1:=coh (i:=1) R1.out
   have p1:=foh (i:=1) R1.out
   have u0:=coh (i:=0) N0.out
   have u1:=coh (i:=1) N0.out
   have u2:=coh (i:=2) N0.out
   have u3:=coh (i:=3) N0.out
   have u4:=coh (i:=4) N0.out
   have v0:=coh (i:=0) N1.out
   have v1:=coh (i:=1) N1.out
   simp at r0 r1 r2 r3 r4 t0 t1 t2 t3 t4 s0 s1 p0 p1 u0 u1 u2 u3 u4 v0 v1
   clear hT6 H2
   go_wp2_with fail
   go_region
   all_goals (
    go_wp2_with fail
    refine bodyPost_ret (v:=.tuple #[.agg #[.pointer pa,.int .u16 nn,.slice sA sl sc,.slice lA ll lc,.slice uA ul uc],.agg #[.int .i64 ln2,.int .i64 0]]) (by simp [results,Tryz.results25,go_sem,r0,r1,r2,r3,r4,s0,s1]) rfl ?_
    rw [HX.out]
    refine ⟨pa,nn,sA,sl,sc,lA,ll,lc,uA,ul,uc,rfl,(((((((B6.out.setCell hB.out _).setCell hB.out _).setCell hB.out _).setCell hB.out _).setCell hB.out _).setCell (by have:=hB.out;show B<=w.heap.size+1;omega) _).setCell (by have:=hB.out;show B<=w.heap.size+1;omega) _).drew,fun h=>?_⟩
    exact ((((((((M6.out.off (by omega) _ _).off (by omega) _ _).off (by omega) _ _).off (by omega) _ _).off (by omega) _ _).off (by omega) _ _).off (by omega) _ _).mono (by omega)).drew)
  ·have e5:((lk2:Int) != 0)=true:=by rw [bne_iff_ne];omega
   have HKK:=LH hk
   have r0:=fun o0 o=>coh (i:=0) (Q05.out o0 o)
   have t0:=fun o0 o=>foh (i:=0) (Q05.out o0 o)
   have r1:=fun o0 o=>coh (i:=1) (Q05.out o0 o)
   have t1:=fun o0 o=>foh (i:=1) (Q05.out o0 o)
   have r2:=fun o0 o=>coh (i:=2) (Q05.out o0 o)
   have t2:=fun o0 o=>foh (i:=2) (Q05.out o0 o)
   have r3:=fun o0 o=>coh (i:=3) (Q05.out o0 o)
   have t3:=fun o0 o=>foh (i:=3) (Q05.out o0 o)
   have r4:=fun o0 o=>coh (i:=4) (Q05.out o0 o)
   have t4:=fun o0 o=>foh (i:=4) (Q05.out o0 o)
   have s0:=fun o0 o=>coh (i:=0) (Q15.out o0 o)
   have p0:=fun o0 o=>foh (i:=0) (Q15.out o0 o)
   have s1:=fun o0 o=>coh (i:=1) (Q15.out o0 o)
   have p1:=fun o0 o=>foh (i:=1) (Q15.out o0 o)
   simp at r0 r1 r2 r3 r4 t0 t1 t2 t3 t4 s0 s1 p0 p1
   clear hk
   go_wp2_with fail
   go_region
   all_goals (
    go_wp2_with fail
    refine bodyPost_ret (v:=.tuple #[.agg #[.pointer pa,.int .u16 nn,.slice sA sl sc,.slice lA ll lc,.slice uA ul uc],.agg #[.int .i64 ln2,.int .i64 lk2]]) (by simp [results,Tryz.results25,go_sem,r0,r1,r2,r3,r4,s0,s1]) rfl ?_
    rw [HX.out]
    refine ⟨pa,nn,sA,sl,sc,lA,ll,lc,uA,ul,uc,rfl,(((((((((B5.out.alloc (by have:=hB.out;omega) _).alloc (by have:=hB.out;simp;omega) _).setCell hB.out _).setCell hB.out _).setCell hB.out _).setCell hB.out _).setCell hB.out _).setCell (by have:=hB.out;show B<=w.heap.size+1;omega) _).setCell (by have:=hB.out;show B<=w.heap.size+1;omega) _).drew,fun h=>?_⟩
    exact absurd h HKK.out)
 ·have e5:((lk:Int) != 0)=true:=by rw [bne_iff_ne];omega
  have HX:Hid (R.2=(ln,lk)):=LH (by rw [HA.out,if_pos hk])
  have hkk:=LH hk
  have r0:=fun o=>coh (i:=0) (Q03.out o)
  have t0:=fun o=>foh (i:=0) (Q03.out o)
  have r1:=fun o=>coh (i:=1) (Q03.out o)
  have t1:=fun o=>foh (i:=1) (Q03.out o)
  have r2:=fun o=>coh (i:=2) (Q03.out o)
  have t2:=fun o=>foh (i:=2) (Q03.out o)
  have r3:=fun o=>coh (i:=3) (Q03.out o)
  have t3:=fun o=>foh (i:=3) (Q03.out o)
  have r4:=fun o=>coh (i:=4) (Q03.out o)
  have t4:=fun o=>foh (i:=4) (Q03.out o)
  have s0:=fun o=>coh (i:=0) (Q13.out o)
  have p0:=fun o=>foh (i:=0) (Q13.out o)
  have s1:=fun o=>coh (i:=1) (Q13.out o)
  have p1:=fun o=>foh (i:=1) (Q13.out o)
  simp at r0 r1 r2 r3 r4 t0 t1 t2 t3 t4 s0 s1 p0 p1
  clear hk HA
  go_wp2_with fail
  go_region
  all_goals (
   go_wp2_with fail
   refine bodyPost_ret (v:=.tuple #[.agg #[.pointer none,.int .u16 0,.slice none 0 0,.slice none 0 0,.slice none 0 0],.agg #[.int .i64 ln,.int .i64 lk]]) (by simp [results,Tryz.results25,go_sem,r0,r1,r2,r3,r4,s0,s1]) rfl ?_
   refine RunB.bad ln lk HX.out hkk.out ?_
   exact (((((((((B3.out.alloc B3.out.size _).mono hB.out).setCell hB.out _).setCell hB.out _).setCell hB.out _).setCell hB.out _).setCell hB.out _).setCell (by have:=hB.out;show B<=w.heap.size+1;omega) _).setCell (by have:=hB.out;show B<=w.heap.size+1;omega) _).drew)
def LiRowV (w:World) (B:Nat) (T:TypeId) (base:Nat) (v:Value) (ls:List Lin) (vs:List Value):Prop:=vs.length=ls.length/\w.ownsRow base T 9 v ls.length (rowV liCells ls vs) /\
 ∀ i (hi:i<ls.length),∃ (bv:Value) (sA:Option Addr) (sc:Nat),vs[i]? = some (.agg #[bv,.slice sA ls[i].e.sub.length sc])/\BytS w (fun k=>B<=k/\k<w.heap.size) bv ls[i].b
theorem LiRowV.get {w:World} {B base n c:Nat} {T:TypeId} {A:Option Addr} {ls:List Lin} {vs:List Value} (h:LiRowV w B T base (.slice A n c) ls vs) (i:Nat) (hi:i<ls.length) :
  ∃ (g:Nat) (bA:Option Addr) (bc:Nat) (sA:Option Addr) (sc:Nat),A=some ⟨g,0,none⟩/\g<w.heap.size/\vs[i]? = some (.agg #[.slice bA ls[i].b.length bc,.slice sA ls[i].e.sub.length sc])/\BytS w (fun k=>B<=k/\k<w.heap.size) (.slice bA ls[i].b.length bc) ls[i].b/\w.cell? ⟨g,i * 9,none⟩=some (.int .i64 ls[i].n)/\w.cell? ⟨g,i * 9+1,none⟩=some (.int .u16 ls[i].pl)/\w.cell? ⟨g,i * 9+2,none⟩=some (.int .i64 ls[i].kind) /\
   w.cell? ⟨g,i * 9+3,none⟩=some (.slice bA ls[i].b.length bc)/\w.cell? ⟨g,i * 9+4,none⟩=some (.int .u16 ls[i].v)/\w.cell? ⟨g,i * 9+5,none⟩=some (.string ⟨ls[i].e.op.toArray⟩)/\w.cell? ⟨g,i * 9+6,none⟩=some (.int .u16 ls[i].e.n)/\w.cell? ⟨g,i * 9+7,none⟩=some (.string ⟨ls[i].e.name.toArray⟩)/\w.cell? ⟨g,i * 9+8,none⟩=some (.slice sA ls[i].e.sub.length sc):=by
 obtain ⟨h1,h2,h3⟩:=h
 obtain ⟨A',c',e1,_,_,hrow⟩:=own_slice h2 (by decide)
 injection e1 with e1 e2 e3
 subst e1
 obtain ⟨g,rfl,_,hg,_,hc⟩:=hrow (by omega)
 obtain ⟨bv,sA,sc,q1,q2⟩:=h3 i hi
 obtain ⟨bA,bc,rfl,_⟩:=id q2
 have G:∀ j u,(liCells ls[i] (.agg #[.slice bA ls[i].b.length bc,.slice sA ls[i].e.sub.length sc]))[j]? = some u->w.cell? ⟨g,i * 9+j,none⟩=some u:=fun j u hu=>
  hc _ _ (rowV_get liCells_len ls vs h1 i hi j u (by rw [List.getD_eq_getElem?_getD,q1];exact hu))
 exact ⟨g,bA,bc,sA,sc,rfl,hg,q1,q2,G 0 _ rfl,G 1 _ rfl,G 2 _ rfl,G 3 _ rfl,G 4 _ rfl,G 5 _ rfl,G 6 _ rfl,G 7 _ rfl,G 8 _ rfl⟩
theorem LiRowV.bel {w w':World} {B base:Nat} {T:TypeId} {v:Value} {ls:List Lin} {vs:List Value} (h:LiRowV w B T base v ls vs) (hb:Below w.heap.size w w'):LiRowV w' B T base v ls vs:=by
 obtain ⟨h1,h2,h3⟩:=h
 refine ⟨h1,row_keep h2 (fun k hk=>hb.block k (h2.lt k hk).2),fun i hi=>?_⟩
 obtain ⟨bv,sA,sc,q1,q2⟩:=h3 i hi
 exact ⟨bv,sA,sc,q1,q2.keep (fun p hp=>hb.cell hp.2) (fun k hk=>⟨hk.1,Nat.lt_of_lt_of_le hk.2 hb.size⟩)⟩
theorem LiRowV.keep {w w':World} {B B' base:Nat} {T:TypeId} {v:Value} {ls:List Lin} {vs:List Value} (h:LiRowV w B T B v ls vs) (hB:B'<=B) (hk:∀ k,B<=k->k<w.heap.size->w'.heap[k]? = w.heap[k]?) (hz:w.heap.size<=w'.heap.size) (hb:base<=B):LiRowV w' B' T base v ls vs:=by
 obtain ⟨h1,h2,h3⟩:=h
 refine ⟨h1,own_base (row_keep h2 (fun k hk2=>hk k (h2.lt k hk2).1 (h2.lt k hk2).2)) hb,fun i hi=>?_⟩
 obtain ⟨bv,sA,sc,q1,q2⟩:=h3 i hi
 exact ⟨bv,sA,sc,q1,q2.keep (fun p hp=>World.cell?_of_block (hk _ hp.1 hp.2)) (fun k hk=>⟨Nat.le_trans hB hk.1,Nat.lt_of_lt_of_le hk.2 hz⟩)⟩
theorem info_l80:(Tryz.prog.info? 109).map (fun i=>(i.zero,i.size,i.bytes))=some (some (.agg #[.int .i64 0,.int .u16 0,.int .i64 0,.slice none 0 0,.int .u16 0,.string ⟨#[]⟩,.int .u16 0,.string ⟨#[]⟩,.slice none 0 0]),9,120):=by kernel_rfl
def AsmP (B:Nat) (w:World) (R:Eg × Nat × Nat) (e:Ending) (w':World):Prop:=
 ∃ (pa:Option Addr) (n:Int) (sA:Option Addr) (sl sc:Nat) (lA:Option Addr) (ll lc:Nat) (uA:Option Addr) (ul uc:Nat),
  e=.returned (.tuple #[.agg #[.pointer pa,.int .u16 n,.slice sA sl sc,.slice lA ll lc,.slice uA ul uc],.agg #[.int .i64 (R.2.1:Nat),.int .i64 (R.2.2:Nat)]])/\Below w.heap.size w w' /\
  (R.2.2=0->n=R.1.entry/\SyRow w' B (.slice sA sl sc) R.1.syms/\∃ vs,LiRowV w' B 109 B (.slice lA ll lc) R.1.lines vs)
theorem AsmP.bad {B:Nat} {w w':World} {R:Eg × Nat × Nat} (a b:Nat) (h:R.2=(a,b)) (hb0:b≠0) (hb:Below w.heap.size w w'):AsmP B w R (.returned (.tuple #[.agg #[.pointer none,.int .u16 0,.slice none 0 0,.slice none 0 0,.slice none 0 0],.agg #[.int .i64 (a:Nat),.int .i64 (b:Nat)]])) w':=by
 obtain ⟨eg,r⟩:=R
 simp only at h
 subst h
 exact ⟨none,0,none,0,0,none,0,0,none,0,0,rfl,hb,fun h=>absurd h hb0⟩
theorem row_base {w:World} {base B size n:Nat} {e:TypeId} {v:Value} {xs:List Value} (h:w.ownsRow base e size v n xs) (hb:∀ k,v.ownBlock=some k->B<=k):w.ownsRow B e size v n xs:=
 ⟨h.1,h.2.imp id fun ⟨g,cap,cur,h1,_,h3,h4⟩=>⟨g,cap,cur,h1,hb g (by rw [h1];rfl),h3,h4⟩⟩
theorem heap_drew (w:World):w.drew.heap=w.heap:=rfl
theorem AsmP.good {B N:Nat} {w wr w':World} {eg:Eg} {ls:List Lin} {ln:Nat} {pa:Option Addr} {n:Int} {sA:Option Addr} {sl sc:Nat} {lv:Value} {lA:Option Addr} {lc:Nat} {uA:Option Addr} {ul uc:Nat} {vs:List Value} (hls:eg.lines=ls) (hBw:B<=w.heap.size) (hN:w.heap.size<=N) (hen:n=eg.entry) (hsy:SyRow w B (.slice sA sl sc) eg.syms)
  (hli:LiRowV w B 140 0 lv ls vs) (hrow:wr.ownsRow N 109 9 (.slice lA ls.length lc) ls.length (rowV liCells (ls.take ls.length) (vs.take ls.length))) (hk:∀ k,N<=k->w'.heap[k]? = wr.heap[k]?) (hb:Below w.heap.size w w') :
  AsmP B w (eg,ln,0) (.returned (.tuple #[.agg #[.pointer pa,.int .u16 n,.slice sA sl sc,.slice lA ls.length lc,.slice uA ul uc],.agg #[.int .i64 ln,.int .i64 0]])) w':=by
 subst hls
 refine ⟨pa,n,sA,sl,sc,lA,eg.lines.length,lc,uA,ul,uc,rfl,hb,fun _=>⟨hen,hsy.keep (fun k _ hk2=>hb.block k hk2),vs,hli.1,?_,fun i hi=>?_⟩⟩
 ·rw [List.take_length,List.take_of_length_le (by rw [hli.1];exact Nat.le_refl _)] at hrow
  exact row_base (row_keep hrow (fun k hk2=>hk k (hrow.lt k hk2).1)) (fun k hk2=>Nat.le_trans (Nat.le_trans hBw hN) (hrow.lt k hk2).1)
 ·obtain ⟨bv,sA,sc,q1,q2⟩:=hli.2.2 i hi
  exact ⟨bv,sA,sc,q1,q2.keep (fun p hp=>hb.cell hp.2) (fun k hk=>⟨hk.1,Nat.lt_of_lt_of_le hk.2 hb.size⟩)⟩
theorem new4 (w:World) (o0 o1 o2 o3:Obj):let W:=(((w.alloc o0).alloc o1).alloc o2).alloc o3
  W.heap[w.heap.size]? = some o0/\W.heap[w.heap.size+1]? = some o1/\W.heap[w.heap.size+2]? = some o2/\W.heap[w.heap.size+3]? = some o3/\Below w.heap.size w W/\W.heap.size=w.heap.size+4:=by
 have h1:(w.alloc o0).heap.size=w.heap.size+1:=by simp
 have h2:((w.alloc o0).alloc o1).heap.size=w.heap.size+2:=by simp
 have h3:(((w.alloc o0).alloc o1).alloc o2).heap.size=w.heap.size+3:=by simp
 have q0:=heap_alloc_new w o0
 have q1:=heap_alloc_new (w.alloc o0) o1
 have q2:=heap_alloc_new ((w.alloc o0).alloc o1) o2
 have q3:=heap_alloc_new (((w.alloc o0).alloc o1).alloc o2) o3
 rw [h1] at q1
 rw [h2] at q2
 rw [h3] at q3
 refine ⟨?_,?_,?_,q3,((((Below.refl w.heap.size w).alloc (Nat.le_refl _) _).alloc (by simp) _).alloc (by first | (simp;done) | (simp;omega)) _).alloc (by first | (simp;done) | (simp;omega)) _,by simp⟩
 ·exact (Below.heap_alloc _ _ _ (by first | (simp;done) | (simp;omega))).trans ((Below.heap_alloc _ _ _ (by first | (simp;done) | (simp;omega))).trans ((Below.heap_alloc _ _ _ (by simp)).trans q0))
 ·exact (Below.heap_alloc _ _ _ (by first | (simp;done) | (simp;omega))).trans ((Below.heap_alloc _ _ _ (by simp)).trans q1)
 ·exact (Below.heap_alloc _ _ _ (by simp)).trans q2
theorem belAt {B:Nat} {a w:World} (h:Below B a w) (b:Nat) (hb:B<=b) (i:Nat) (u:Value):Below B a (w.setCell ⟨b,i,none⟩ u):=h.setCell hb u
theorem told_bad (eg:Eg) (B:Nat) (ln lk:Nat) (hk:lk≠0) (pa:Option Addr) (n:Int) (sA:Option Addr) (sl sc:Nat) (lA:Option Addr) (ll lc:Nat) (uA:Option Addr) (ul uc:Nat) (w:World) :
  Calls Tryz.prog 24 #[.agg #[.pointer pa,.int .u16 n,.slice sA sl sc,.slice lA ll lc,.slice uA ul uc],.agg #[.int .i64 ln,.int .i64 lk]] w (AsmP B w (eg,ln,lk)):=by
 have e5:((lk:Int) != 0)=true:=by rw [bne_iff_ne];omega
 obtain ⟨q0,q1,q2,q3,hb,hz⟩:=new4 w (.cells #[.pointer pa,.int .u16 n,.slice sA sl sc,.slice lA ll lc,.slice uA ul uc] 93) (.cells #[.int .i64 ln,.int .i64 lk] 29) (.cells #[.pointer none,.int .u16 0,.slice none 0 0,.slice none 0 0,.slice none 0 0] 40) (.cells #[.int .i64 0,.int .i64 0] 29)
 have B4:=LH hb
 clear q0 q1 q2 q3 hb hz
 have HK:=LH hk
 clear hk
 go_enter Tryz.func24, Tryz.ntmps24
 go_wp2_with fail
 go_region
 all_goals (
  go_wp2_with fail
  refine bodyPost_ret (v:=.tuple #[.agg #[.pointer none,.int .u16 0,.slice none 0 0,.slice none 0 0,.slice none 0 0],.agg #[.int .i64 ln,.int .i64 lk]]) (by simp [results,Tryz.results24,go_sem]) rfl ?_
  refine AsmP.bad ln lk rfl HK.out ?_
  exact (new4 w _ _ _ _).2.2.2.2.1.drew)
theorem told_good (eg:Eg) (ln:Nat) (B:Nat) (hfew:eg.lines.length<=1000000) (pa:Option Addr) (n:Int) (sA:Option Addr) (sl sc:Nat) (lA:Option Addr) (ll lc:Nat) (uA:Option Addr) (ul uc:Nat) (w:World)
  (h:MadeAt B w eg (.pointer pa) (.int .u16 n) (.slice sA sl sc) (.slice lA ll lc) (.slice uA ul uc)) :
  Calls Tryz.prog 24 #[.agg #[.pointer pa,.int .u16 n,.slice sA sl sc,.slice lA ll lc,.slice uA ul uc],.agg #[.int .i64 ln,.int .i64 0]] w (AsmP B w (eg,ln,0)):=by
 obtain ⟨E,e1,e2,e3,e4,_,⟨vs,h6⟩,h7,h9,h8⟩:=h
 have hent:n=eg.entry:=by injection e2
 clear e1 e2 h7
 have HSY:=LH h9
 have HEN:=LH hent
 have HLI:Hid (LiRowV w B 140 0 (.slice lA ll lc) eg.lines vs):=LH (by rw [e3];exact h6)
 have hll:ll=eg.lines.length:=by
  obtain ⟨A',c',e5,_,_,_⟩:=own_slice HLI.out.2.1 (by decide)
  injection e5
 subst hll
 have hBw:B<=w.heap.size:=Nat.le_of_lt (Nat.lt_of_le_of_lt (h8 E.g (mem_own.2 (.inl rfl))).1 (h8 E.g (mem_own.2 (.inl rfl))).2)
 clear hent h9
 obtain ⟨q0,q1,q2,q3,hb,hz⟩:=new4 w (.cells #[.pointer pa,.int .u16 n,.slice sA sl sc,.slice lA eg.lines.length lc,.slice uA ul uc] 93) (.cells #[.int .i64 ln,.int .i64 0] 29) (.cells #[.pointer none,.int .u16 0,.slice none 0 0,.slice none 0 0,.slice none 0 0] 40) (.cells #[.int .i64 0,.int .i64 0] 29)
 have B5:=LH (hb.alloc (by rw [hz];omega) (.cells #[.pointer pa,.int .u16 n,.slice sA sl sc,.slice none 0 0,.slice uA ul uc] 40))
 have Q1:=LH ((Below.heap_alloc _ (.cells #[.pointer pa,.int .u16 n,.slice sA sl sc,.slice none 0 0,.slice uA ul uc] 40) (w.heap.size+1) (by rw [hz];omega)).trans q1)
 have Q2:=LH ((Below.heap_alloc _ (.cells #[.pointer pa,.int .u16 n,.slice sA sl sc,.slice none 0 0,.slice uA ul uc] 40) (w.heap.size+2) (by rw [hz];omega)).trans q2)
 have Q3:=LH ((Below.heap_alloc _ (.cells #[.pointer pa,.int .u16 n,.slice sA sl sc,.slice none 0 0,.slice uA ul uc] 40) (w.heap.size+3) (by rw [hz];omega)).trans q3)
 have Q4:=LH (heap_last hz (.cells #[.pointer pa,.int .u16 n,.slice sA sl sc,.slice none 0 0,.slice uA ul uc] 40))
 clear q0 q1 q2 q3 hb hz h6 h8 e3 e4
 obtain ⟨ls,hls⟩:∃ ls,eg.lines=ls:=⟨_,rfl⟩
 have HLS:=LH hls
 rw [hls] at HLI hfew ⊢
 simp only [hls] at B5 Q1 Q2 Q3 Q4
 clear hls
 go_enter Tryz.func24, Tryz.ntmps24
 go_wp2_with fail
 go_loopw [26] (fun i wr=>∃ (k:Nat) (vA:Option Addr) (vc:Nat),k<=ls.length/\i=.int .i64 k/\Below w.heap.size w wr/\wr.heap[w.heap.size+1]? = some (.cells #[.int .i64 ln,.int .i64 0] 29 (0,0)) /\
  wr.heap[w.heap.size+2]? = some (.cells #[.pointer none,.int .u16 0,.slice none 0 0,.slice none 0 0,.slice none 0 0] 40 (0,0))/\wr.heap[w.heap.size+3]? = some (.cells #[.int .i64 0,.int .i64 0] 29 (0,0)) /\
  wr.heap[w.heap.size+4]? = some (.cells #[.pointer pa,.int .u16 n,.slice sA sl sc,.slice vA k vc,.slice uA ul uc] 40 (0,0))/\wr.ownsRow (w.heap.size+5) 109 9 (.slice vA k vc) k (rowV liCells (ls.take k) (vs.take k))) (fun i _=>ls.length - (intOf i).toNat)
 case atStart=>exact ⟨0,none,0,Nat.zero_le _,rfl,B5.out,Q1.out,Q2.out,Q3.out,Q4.out,World.ownsRow_nil _ _ _ _⟩
 case round=>
  obtain ⟨k,vA,vc,hk,rfl,hbw,h1,h2,h3,h4,hown⟩:=hrel
  have BW:=LH hbw
  have H1:=LH h1
  have H2:=LH h2
  have H3:=LH h3
  have H4:=LH h4
  have HOW:=LH hown
  have hsz:w.heap.size+4<wr.heap.size:=loh h4
  have d0:=coh (i:=0) h4
  have d1:=coh (i:=1) h4
  have d2:=coh (i:=2) h4
  have d3:=coh (i:=3) h4
  have d4:=coh (i:=4) h4
  have d5:=foh (i:=3) h4
  simp at d0 d1 d2 d3 d4 d5
  clear hbw h1 h2 h3 h4 hown
  by_cases hlt:k<ls.length
  ·have i1:(k:Int)<(ls.length:Int):=by omega
   obtain ⟨g,bA,bc,tA,tc,rfl,hg,hvk,_,c0,c1,c2,c3,c4,c5,c6,c7,c8⟩:=HLI.out.get k hlt
   have HVS:Hid (rowV liCells (ls.take (k+1)) (vs.take (k+1))=rowV liCells (ls.take k) (vs.take k)++liCells ls[k] (.agg #[.slice bA ls[k].b.length bc,.slice tA ls[k].e.sub.length tc])):=LH (by
    have hkv:k<vs.length:=by rw [HLI.out.1];exact hlt
    have e5:vs[k]=.agg #[.slice bA ls[k].b.length bc,.slice tA ls[k].e.sub.length tc]:=by rw [List.getElem?_eq_getElem hkv] at hvk;exact Option.some.inj hvk
    rw [List.take_succ_eq_append_getElem hlt,List.take_succ_eq_append_getElem hkv,e5,rowV_snoc _ _ _ _ (by rw [List.length_take,List.length_take,HLI.out.1])])
   clear hvk
   have hh:=fun (j:Nat)=>BW.out.cell (p:=⟨g,k * 9+j,none⟩) hg
   rw [← (BW.out.cell (p:=⟨g,k * 9,none⟩) hg)] at c0
   rw [← hh 1] at c1
   rw [← hh 2] at c2
   rw [← hh 3] at c3
   rw [← hh 4] at c4
   rw [← hh 5] at c5
   rw [← hh 6] at c6
   rw [← hh 7] at c7
   rw [← hh 8] at c8
   clear hh
   generalize ls[k]=x at *
   have BA:=LH ((Below.refl wr.heap.size wr).alloc (Nat.le_refl _) (.cells #[.int .i64 x.n,.int .u16 x.pl,.int .i64 x.kind,.slice bA x.b.length bc,.int .u16 x.v,.string ⟨x.e.op.toArray⟩,.int .u16 x.e.n,.string ⟨x.e.name.toArray⟩,.slice tA x.e.sub.length tc] 140))
   have O2:=LH (own_bel HOW.out BA.out)
   have hone:∀ u∈[Value.int .i64 x.n,.int .u16 x.pl,.int .i64 x.kind,.slice bA x.b.length bc,.int .u16 x.v,.string ⟨x.e.op.toArray⟩,.int .u16 x.e.n,.string ⟨x.e.name.toArray⟩,.slice tA x.e.sub.length tc],u.oneCell'=true:=by
    intro u hu
    simp at hu
    rcases hu with rfl | rfl | rfl | rfl | rfl | rfl | rfl | rfl | rfl <;> rfl
   have hbb:w.heap.size+5<=(wr.alloc (.cells #[.int .i64 x.n,.int .u16 x.pl,.int .i64 x.kind,.slice bA x.b.length bc,.int .u16 x.v,.string ⟨x.e.op.toArray⟩,.int .u16 x.e.n,.string ⟨x.e.name.toArray⟩,.slice tA x.e.sub.length tc] 140)).heap.size:=by simp;omega
   have d3a:=fun o=>new_keep (o:=o) d3
   have N1:=LH (fun o=>(Below.heap_alloc wr o (w.heap.size+1) (by omega)).trans H1.out)
   have N2:=LH (fun o=>(Below.heap_alloc wr o (w.heap.size+2) (by omega)).trans H2.out)
   have N3:=LH (fun o=>(Below.heap_alloc wr o (w.heap.size+3) (by omega)).trans H3.out)
   have N4:=LH (fun o=>(Below.heap_alloc wr o (w.heap.size+4) (by omega)).trans H4.out)
   go_wp2_with (at_builtin;refine wpList_append_at _ (wr.heap.size+1) (by simp) rfl (.tmp 31) (.tmp 33) 38 rfl (w.heap.size+5) 109 _ 9 120 Tryz.underlying38 info_l80 rfl (by omega) O2.out rfl [.int .i64 x.n,.int .u16 x.pl,.int .i64 x.kind,.slice bA x.b.length bc,.int .u16 x.v,.string ⟨x.e.op.toArray⟩,.int .u16 x.e.n,.string ⟨x.e.name.toArray⟩,.slice tA x.e.sub.length tc] 109 rfl rfl hone (by omega) (by omega) hbb ?_;intro v9 w9 hown9 hbel9;obtain ⟨A9,c9,rfl,_,_,_⟩:=own_slice hown9 (by omega);have ON:=LH hown9;have M1:=LH ((hbel9.block _ (by omega)).trans (N1.out _));have M2:=LH ((hbel9.block _ (by omega)).trans (N2.out _));have M3:=LH ((hbel9.block _ (by omega)).trans (N3.out _));have M4:=LH ((hbel9.block _ (by omega)).trans (N4.out _));have B9:=LH ((bthen BW.out BA.out).trans (hbel9.mono (by omega)));have q3:=coh (i:=3) M4.out;have q5:=foh (i:=3) M4.out;simp at q3 q5;clear hown9 hbel9 d0 d1 d2 d3 d4 d5 d3a N1 N2 N3 N4 hbb)
   go_roundw
   case rel=>exact ⟨k+1,A9,c9,by omega,by go_num,B9.out.setCell (by show w.heap.size<=w.heap.size+4;omega) _,(set_block (by omega)).trans M1.out,(set_block (by omega)).trans M2.out,(set_block (by omega)).trans M3.out,heap_set (i:=3) _ M4.out,by rw [HVS.out];exact ownsRow_setCell_below ON.out (by show w.heap.size+1+1+1+1<w.heap.size+5;omega) _⟩
   case measure=>simp [intOf];omega
  ·obtain rfl:k=ls.length:=by omega
   have g0:=coh (i:=0) H1.out
   have g1:=coh (i:=1) H1.out
   have r0:=coh (i:=0) H2.out
   have r1:=coh (i:=1) H2.out
   have r2:=coh (i:=2) H2.out
   have r3:=coh (i:=3) H2.out
   have r4:=coh (i:=4) H2.out
   have t0:=foh (i:=0) H2.out
   have t1:=foh (i:=1) H2.out
   have t2:=foh (i:=2) H2.out
   have t3:=foh (i:=3) H2.out
   have t4:=foh (i:=4) H2.out
   have s0:=coh (i:=0) H3.out
   have s1:=coh (i:=1) H3.out
   have p0:=foh (i:=0) H3.out
   have p1:=foh (i:=1) H3.out
   simp at g0 g1 r0 r1 r2 r3 r4 t0 t1 t2 t3 t4 s0 s1 p0 p1
   go_wp2_with fail
   go_region
   all_goals (
    go_wp2_with fail
    refine bodyPost_ret (v:=.tuple #[.agg #[.pointer pa,.int .u16 n,.slice sA sl sc,.slice vA ls.length vc,.slice uA ul uc],.agg #[.int .i64 ln,.int .i64 0]]) (by simp [results,Tryz.results24,go_sem,r0,r1,r2,r3,r4,s0,s1]) rfl ?_
    refine AsmP.good HLS.out hBw (Nat.le_add_right _ _) HEN.out HSY.out HLI.out HOW.out (fun k hk=>?_) ?_
    ·rw [heap_drew]
     simp only [set_block (show k≠w.heap.size+1+1 by omega),set_block (show k≠w.heap.size+1+1+1 by omega)]
    ·exact (belAt (belAt (belAt (belAt (belAt (belAt (belAt BW.out (w.heap.size+1+1) (by omega) _ _) (w.heap.size+1+1) (by omega) _ _) (w.heap.size+1+1) (by omega) _ _) (w.heap.size+1+1) (by omega) _ _) (w.heap.size+1+1) (by omega) _ _) (w.heap.size+1+1+1) (by omega) _ _) (w.heap.size+1+1+1) (by omega) _ _).drew)
theorem asm_few (s:List UInt8) (hl:s.length<=100000):(asmF fd80 0 s).1.lines.length<=1000000/\(asmF fd80 0 s).1.used.length<=(srcS 0 s).1.length:=by
 unfold asmF
 have h1:=src_len 0 s hl
 split
 ·simp [eg1,eg0]
 ·have h2:=runF_few fd80 (srcS 0 s).1
  omega
theorem asm1_ton (n:Nat) (W:World):Calls Tryz.prog 26 (#[.int .i64 (n:Nat)] ++ #[]) W fun e W'=>e=.returned (tonV false 0)/\Turn [] W [] W'/\True:=by
 rw [Array.append_empty]
 refine (asm1_any n W).mono ?_
 rintro e w' ⟨rfl,rfl⟩
 exact ⟨rfl,Turn.refl _ _,trivial⟩
theorem asm2_ton (W:World):Calls Tryz.prog 27 #[] W fun e W'=>e=.returned (.bool false)/\Turn [] W [] W':=by
 refine (asm2_any W).mono ?_
 rintro e w' ⟨rfl,rfl⟩
 exact ⟨rfl,Turn.refl _ _⟩
theorem asrc_any (s:List UInt8) (w:World) (hg:GWL w) (hl:s.length<=100000) :
  Calls Tryz.prog 25 #[.int .i64 0,.string ⟨s.toArray⟩,.func (.func 26) #[] #[],.func (.func 27) #[] #[]] w (RunB w.heap.size w (asmF fd80 0 s)):=
 esrc_any 0 false 0 fd80 fd80_fine [] w.heap.size (fun _=>True) (fun _ _ _ _=>trivial) _ _ #[] #[] asm1_enter asm2_enter s w hg hl (fun k hk=>absurd hk (by simp)) (Nat.le_refl _) trivial
  (fun x hx W2 v i _ ha=>find_any x v i W2 ha (src_few 0 s x hx)) (fun n W2 _ _=>asm1_ton n W2) (fun W2 _=>asm2_ton W2)
theorem asm_any (s:List UInt8) (w:World) (hg:GWL w) (hl:s.length<=100000):Calls Tryz.prog 8 #[.string ⟨s.toArray⟩] w (AsmP w.heap.size w (asmF fd80 0 s)):=by
 have HS:=LH (fun W (hW:GWL W)=>asrc_any s W hW hl)
 have HFEW:=LH (asm_few s hl).1
 have hn1:=asm1_enter
 have hn2:=asm2_enter
 generalize asmF fd80 0 s=R at *
 have B2:=LH (((Below.refl w.heap.size w).alloc (Nat.le_refl _) (.cells #[.pointer none,.int .u16 0,.slice none 0 0,.slice none 0 0,.slice none 0 0] 40)).alloc (by simp) (.cells #[.int .i64 0,.int .i64 0] 29))
 have O0:=LH ((Below.heap_alloc (w.alloc (.cells #[.pointer none,.int .u16 0,.slice none 0 0,.slice none 0 0,.slice none 0 0] 40)) (.cells #[.int .i64 0,.int .i64 0] 29) w.heap.size (by simp)).trans (heap_alloc_new w (.cells #[.pointer none,.int .u16 0,.slice none 0 0,.slice none 0 0,.slice none 0 0] 40)))
 have O1:=LH (heap_alloc_new (w.alloc (.cells #[.pointer none,.int .u16 0,.slice none 0 0,.slice none 0 0,.slice none 0 0] 40)) (.cells #[.int .i64 0,.int .i64 0] 29))
 rw [show (w.alloc (.cells #[.pointer none,.int .u16 0,.slice none 0 0,.slice none 0 0,.slice none 0 0] 40)).heap.size=w.heap.size+1 by simp] at O1
 go_enter Tryz.func8, Tryz.ntmps8
 go_wp2_with fail
 refine (HS.out _ (hg.below B2.out)).mono ?_
 rintro e w3 ⟨pa,nn,sA,sl,sc,lA,ll,lc,uA,ul,uc,rfl,hb3,hmade⟩
 have B3:=LH (bthen B2.out hb3)
 have P0:=LH ((hb3.block w.heap.size (by simp;omega)).trans O0.out)
 have P1:=LH ((hb3.block (w.heap.size+1) (by simp)).trans O1.out)
 have h3:w.heap.size+1<w3.heap.size:=loh P1.out
 obtain ⟨eg,ln,lk⟩:=R
 have HT:Hid (Calls Tryz.prog 24 #[.agg #[.pointer pa,.int .u16 nn,.slice sA sl sc,.slice lA ll lc,.slice uA ul uc],.agg #[.int .i64 ln,.int .i64 lk]] w3 (AsmP (w.heap.size+2) w3 (eg,ln,lk))):=LH (by
  by_cases hk:lk=0
  ·subst hk
   exact told_good eg ln (w.heap.size+2) HFEW.out pa nn sA sl sc lA ll lc uA ul uc w3 (MadeAt.mono (B':=w.heap.size+2) (hmade rfl) (by simp))
  ·exact told_bad eg (w.heap.size+2) ln lk hk pa nn sA sl sc lA ll lc uA ul uc w3)
 clear hb3 hmade O0 O1 B2 HS
 simp only
 go_wp2_with fail
 refine HT.out.mono ?_
 rintro e w4 ⟨pa',nn',sA',sl',sc',lA',ll',lc',uA',ul',uc',rfl,hb4,hu⟩
 have B4:=LH (bthen B3.out hb4)
 have P04:=LH ((hb4.block w.heap.size (by omega)).trans P0.out)
 have P14:=LH ((hb4.block (w.heap.size+1) h3).trans P1.out)
 have HU:=LH hu
 have r0:=coh (i:=0) P04.out
 have t0:=foh (i:=0) P04.out
 have r1:=coh (i:=1) P04.out
 have t1:=foh (i:=1) P04.out
 have r2:=coh (i:=2) P04.out
 have t2:=foh (i:=2) P04.out
 have r3:=coh (i:=3) P04.out
 have t3:=foh (i:=3) P04.out
 have r4:=coh (i:=4) P04.out
 have t4:=foh (i:=4) P04.out
 have s0:=coh (i:=0) P14.out
 have p0:=foh (i:=0) P14.out
 have s1:=coh (i:=1) P14.out
 have p1:=foh (i:=1) P14.out
 simp at r0 r1 r2 r3 r4 t0 t1 t2 t3 t4 s0 s1 p0 p1
 clear hb4 hu HT
 simp only
 go_wp2_with fail
 refine bodyPost_ret (v:=.tuple #[.agg #[.pointer pa',.int .u16 nn',.slice sA' sl' sc',.slice lA' ll' lc',.slice uA' ul' uc'],.agg #[.int .i64 ln,.int .i64 lk]]) (by simp [results,Tryz.results8,go_sem,r0,r1,r2,r3,r4,s0,s1]) rfl ?_
 refine ⟨pa',nn',sA',sl',sc',lA',ll',lc',uA',ul',uc',rfl,?_,fun h=>?_⟩
 ·exact (((((((B4.out.setCell (Nat.le_refl _) _).setCell (Nat.le_refl _) _).setCell (Nat.le_refl _) _).setCell (Nat.le_refl _) _).setCell (Nat.le_refl _) _).setCell (Nat.le_succ _) _).setCell (Nat.le_succ _) _)
 ·obtain ⟨h1,h2,vs,h3⟩:=HU.out h
  refine ⟨h1,(h2.keep (fun k hk _=>?_)).mono (by omega),vs,h3.keep (by omega) (fun k hk _=>?_) (by simp) (by omega)⟩
  all_goals simp only [set_block (show k≠w.heap.size by omega),set_block (show k≠w.heap.size+1 by omega)]
end Go.Proofs.YtbdnbfacalfciaaGreatDoor
