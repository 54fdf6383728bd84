/- Xw. -/
import Derived.Test.YtbdnbfacalfciaaGreatDoorXv
import Derived.Test.YtbdnbfacalfciaaGreatDoorXl
import Derived.Laws.MakeOwn
namespace Go.Proofs.YtbdnbfacalfciaaGreatDoor
set_option maxRecDepth 100000
set_option maxHeartbeats 8000000
open Go.RowKit
theorem info_l86:(Tryz.prog.info? 186).map (fun i=>(i.zero,i.size,i.bytes))=some (some (.agg #[.int .i64 0,.int .u16 0,.int .i64 0,.slice none 0 0,.int .u16 0,.string ⟨#[]⟩,.int .u16 0,.string ⟨#[]⟩,.slice none 0 0]),9,120):=by kernel_rfl
def A86P (w:World) (ln lk:Nat) (e:Ending) (w':World):Prop:=
 ∃ (pa:Option Addr) (n:Int) (sA:Option Addr) (sl sc:Nat) (lA:Option Addr) (ll lc:Nat) (uA:Option Addr) (ul uc:Nat),
  e=.returned (.tuple #[.agg #[.pointer pa,.int .u16 n,.slice sA sl sc,.slice lA ll lc,.slice uA ul uc],.agg #[.int .i64 (ln:Nat),.int .i64 (lk:Nat)]])/\Below w.heap.size w w'
theorem A86P.mk {w w':World} {pa:Option Addr} {n:Int} {sA:Option Addr} {sl sc:Nat} {lA:Option Addr} {ll lc:Nat} {uA:Option Addr} {ul uc ln lk:Nat} (hb:Below w.heap.size w w') :
  A86P w ln lk (.returned (.tuple #[.agg #[.pointer pa,.int .u16 n,.slice sA sl sc,.slice lA ll lc,.slice uA ul uc],.agg #[.int .i64 (ln:Nat),.int .i64 (lk:Nat)]])) w':=⟨pa,n,sA,sl,sc,lA,ll,lc,uA,ul,uc,rfl,hb⟩
theorem told86_good (eg:Eg) (ln:Nat) (B:Nat) (hfew:eg.lines.length<=1000000) (pa:Option Addr) (n:Int) (sA:Option Addr) (sl sc:Nat) (lA:Option Addr) (ll lc:Nat) (uA:Option Addr) (ul uc:Nat) (w:World)
  (h:MadeAt B w eg (.pointer pa) (.int .u16 n) (.slice sA sl sc) (.slice lA ll lc) (.slice uA ul uc)) :
  Calls Tryz.prog 56 #[.agg #[.pointer pa,.int .u16 n,.slice sA sl sc,.slice lA ll lc,.slice uA ul uc],.agg #[.int .i64 ln,.int .i64 0]] w (A86P w ln 0):=by
 obtain ⟨E,e1,e2,e3,e4,_,⟨vs,h6⟩,h7,h9,h8⟩:=h
 have hent:n=eg.entry:=by injection e2
 clear e1 e2 h7
 have HSY:=LH h9
 have HEN:=LH hent
 have HLI:Hid (LiRowV w B 140 0 (.slice lA ll lc) eg.lines vs):=LH (by rw [e3];exact h6)
 have hll:ll=eg.lines.length:=by
  obtain ⟨A',c',e5,_,_,_⟩:=own_slice HLI.out.2.1 (by decide)
  injection e5
 subst hll
 have hBw:B<=w.heap.size:=Nat.le_of_lt (Nat.lt_of_le_of_lt (h8 E.g (mem_own.2 (.inl rfl))).1 (h8 E.g (mem_own.2 (.inl rfl))).2)
 clear hent h9
 obtain ⟨q0,q1,q2,q3,hb,hz⟩:=new4 w (.cells #[.pointer pa,.int .u16 n,.slice sA sl sc,.slice lA eg.lines.length lc,.slice uA ul uc] 93) (.cells #[.int .i64 ln,.int .i64 0] 29) (.cells #[.pointer none,.int .u16 0,.slice none 0 0,.slice none 0 0,.slice none 0 0] 86) (.cells #[.int .i64 0,.int .i64 0] 29)
 have B5:=LH (hb.alloc (by rw [hz];omega) (.cells #[.pointer pa,.int .u16 n,.slice sA sl sc,.slice none 0 0,.slice uA ul uc] 86))
 have Q1:=LH ((Below.heap_alloc _ (.cells #[.pointer pa,.int .u16 n,.slice sA sl sc,.slice none 0 0,.slice uA ul uc] 86) (w.heap.size+1) (by rw [hz];omega)).trans q1)
 have Q2:=LH ((Below.heap_alloc _ (.cells #[.pointer pa,.int .u16 n,.slice sA sl sc,.slice none 0 0,.slice uA ul uc] 86) (w.heap.size+2) (by rw [hz];omega)).trans q2)
 have Q3:=LH ((Below.heap_alloc _ (.cells #[.pointer pa,.int .u16 n,.slice sA sl sc,.slice none 0 0,.slice uA ul uc] 86) (w.heap.size+3) (by rw [hz];omega)).trans q3)
 have Q4:=LH (heap_last hz (.cells #[.pointer pa,.int .u16 n,.slice sA sl sc,.slice none 0 0,.slice uA ul uc] 86))
 clear q0 q1 q2 q3 hb hz h6 h8 e3 e4
 obtain ⟨ls,hls⟩:∃ ls,eg.lines=ls:=⟨_,rfl⟩
 have HLS:=LH hls
 rw [hls] at HLI hfew ⊢
 simp only [hls] at B5 Q1 Q2 Q3 Q4
 clear hls
 go_enter Tryz.func56, Tryz.ntmps56
 go_wp2_with fail
 go_loopw [26] (fun i wr=>∃ (k:Nat) (vA:Option Addr) (vc:Nat),k<=ls.length/\i=.int .i64 k/\Below w.heap.size w wr/\wr.heap[w.heap.size+1]? = some (.cells #[.int .i64 ln,.int .i64 0] 29 (0,0)) /\
  wr.heap[w.heap.size+2]? = some (.cells #[.pointer none,.int .u16 0,.slice none 0 0,.slice none 0 0,.slice none 0 0] 86 (0,0))/\wr.heap[w.heap.size+3]? = some (.cells #[.int .i64 0,.int .i64 0] 29 (0,0)) /\
  wr.heap[w.heap.size+4]? = some (.cells #[.pointer pa,.int .u16 n,.slice sA sl sc,.slice vA k vc,.slice uA ul uc] 86 (0,0))/\wr.ownsRow (w.heap.size+5) 186 9 (.slice vA k vc) k (rowV liCells (ls.take k) (vs.take k))) (fun i _=>ls.length - (intOf i).toNat)
 case atStart=>exact ⟨0,none,0,Nat.zero_le _,rfl,B5.out,Q1.out,Q2.out,Q3.out,Q4.out,World.ownsRow_nil _ _ _ _⟩
 case round=>
  obtain ⟨k,vA,vc,hk,rfl,hbw,h1,h2,h3,h4,hown⟩:=hrel
  have BW:=LH hbw
  have H1:=LH h1
  have H2:=LH h2
  have H3:=LH h3
  have H4:=LH h4
  have HOW:=LH hown
  have hsz:w.heap.size+4<wr.heap.size:=loh h4
  have d0:=coh (i:=0) h4
  have d1:=coh (i:=1) h4
  have d2:=coh (i:=2) h4
  have d3:=coh (i:=3) h4
  have d4:=coh (i:=4) h4
  have d5:=foh (i:=3) h4
  simp at d0 d1 d2 d3 d4 d5
  clear hbw h1 h2 h3 h4 hown
  by_cases hlt:k<ls.length
  ·have i1:(k:Int)<(ls.length:Int):=by omega
   obtain ⟨g,bA,bc,tA,tc,rfl,hg,hvk,_,c0,c1,c2,c3,c4,c5,c6,c7,c8⟩:=HLI.out.get k hlt
   have HVS:Hid (rowV liCells (ls.take (k+1)) (vs.take (k+1))=rowV liCells (ls.take k) (vs.take k)++liCells ls[k] (.agg #[.slice bA ls[k].b.length bc,.slice tA ls[k].e.sub.length tc])):=LH (by
    have hkv:k<vs.length:=by rw [HLI.out.1];exact hlt
    have e5:vs[k]=.agg #[.slice bA ls[k].b.length bc,.slice tA ls[k].e.sub.length tc]:=by rw [List.getElem?_eq_getElem hkv] at hvk;exact Option.some.inj hvk
    rw [List.take_succ_eq_append_getElem hlt,List.take_succ_eq_append_getElem hkv,e5,rowV_snoc _ _ _ _ (by rw [List.length_take,List.length_take,HLI.out.1])])
   clear hvk
   have hh:=fun (j:Nat)=>BW.out.cell (p:=⟨g,k * 9+j,none⟩) hg
   rw [← (BW.out.cell (p:=⟨g,k * 9,none⟩) hg)] at c0
   rw [← hh 1] at c1
   rw [← hh 2] at c2
   rw [← hh 3] at c3
   rw [← hh 4] at c4
   rw [← hh 5] at c5
   rw [← hh 6] at c6
   rw [← hh 7] at c7
   rw [← hh 8] at c8
   clear hh
   generalize ls[k]=x at *
   have BA:=LH ((Below.refl wr.heap.size wr).alloc (Nat.le_refl _) (.cells #[.int .i64 x.n,.int .u16 x.pl,.int .i64 x.kind,.slice bA x.b.length bc,.int .u16 x.v,.string ⟨x.e.op.toArray⟩,.int .u16 x.e.n,.string ⟨x.e.name.toArray⟩,.slice tA x.e.sub.length tc] 140))
   have O2:=LH (own_bel HOW.out BA.out)
   have hone:∀ u∈[Value.int .i64 x.n,.int .u16 x.pl,.int .i64 x.kind,.slice bA x.b.length bc,.int .u16 x.v,.string ⟨x.e.op.toArray⟩,.int .u16 x.e.n,.string ⟨x.e.name.toArray⟩,.slice tA x.e.sub.length tc],u.oneCell'=true:=by
    intro u hu
    simp at hu
    rcases hu with rfl | rfl | rfl | rfl | rfl | rfl | rfl | rfl | rfl <;> rfl
   have hbb:w.heap.size+5<=(wr.alloc (.cells #[.int .i64 x.n,.int .u16 x.pl,.int .i64 x.kind,.slice bA x.b.length bc,.int .u16 x.v,.string ⟨x.e.op.toArray⟩,.int .u16 x.e.n,.string ⟨x.e.name.toArray⟩,.slice tA x.e.sub.length tc] 140)).heap.size:=by simp;omega
   have d3a:=fun o=>new_keep (o:=o) d3
   have N1:=LH (fun o=>(Below.heap_alloc wr o (w.heap.size+1) (by omega)).trans H1.out)
   have N2:=LH (fun o=>(Below.heap_alloc wr o (w.heap.size+2) (by omega)).trans H2.out)
   have N3:=LH (fun o=>(Below.heap_alloc wr o (w.heap.size+3) (by omega)).trans H3.out)
   have N4:=LH (fun o=>(Below.heap_alloc wr o (w.heap.size+4) (by omega)).trans H4.out)
   go_wp2_with (at_builtin;refine wpList_append_at _ (wr.heap.size+1) (by simp) rfl (.tmp 31) (.tmp 33) 84 rfl (w.heap.size+5) 186 _ 9 120 Tryz.underlying84 info_l86 rfl (by omega) O2.out rfl [.int .i64 x.n,.int .u16 x.pl,.int .i64 x.kind,.slice bA x.b.length bc,.int .u16 x.v,.string ⟨x.e.op.toArray⟩,.int .u16 x.e.n,.string ⟨x.e.name.toArray⟩,.slice tA x.e.sub.length tc] 186 rfl rfl hone (by omega) (by omega) hbb ?_;intro v9 w9 hown9 hbel9;obtain ⟨A9,c9,rfl,_,_,_⟩:=own_slice hown9 (by omega);have ON:=LH hown9;have M1:=LH ((hbel9.block _ (by omega)).trans (N1.out _));have M2:=LH ((hbel9.block _ (by omega)).trans (N2.out _));have M3:=LH ((hbel9.block _ (by omega)).trans (N3.out _));have M4:=LH ((hbel9.block _ (by omega)).trans (N4.out _));have B9:=LH ((bthen BW.out BA.out).trans (hbel9.mono (by omega)));have q3:=coh (i:=3) M4.out;have q5:=foh (i:=3) M4.out;simp at q3 q5;clear hown9 hbel9 d0 d1 d2 d3 d4 d5 d3a N1 N2 N3 N4 hbb)
   go_roundw
   case rel=>exact ⟨k+1,A9,c9,by omega,by go_num,B9.out.setCell (by show w.heap.size<=w.heap.size+4;omega) _,(set_block (by omega)).trans M1.out,(set_block (by omega)).trans M2.out,(set_block (by omega)).trans M3.out,heap_set (i:=3) _ M4.out,by rw [HVS.out];exact ownsRow_setCell_below ON.out (by show w.heap.size+1+1+1+1<w.heap.size+5;omega) _⟩
   case measure=>simp [intOf];omega
  ·obtain rfl:k=ls.length:=by omega
   have g0:=coh (i:=0) H1.out
   have g1:=coh (i:=1) H1.out
   have r0:=coh (i:=0) H2.out
   have r1:=coh (i:=1) H2.out
   have r2:=coh (i:=2) H2.out
   have r3:=coh (i:=3) H2.out
   have r4:=coh (i:=4) H2.out
   have t0:=foh (i:=0) H2.out
   have t1:=foh (i:=1) H2.out
   have t2:=foh (i:=2) H2.out
   have t3:=foh (i:=3) H2.out
   have t4:=foh (i:=4) H2.out
   have s0:=coh (i:=0) H3.out
   have s1:=coh (i:=1) H3.out
   have p0:=foh (i:=0) H3.out
   have p1:=foh (i:=1) H3.out
   simp at g0 g1 r0 r1 r2 r3 r4 t0 t1 t2 t3 t4 s0 s1 p0 p1
   go_wp2_with fail
   go_region
   all_goals (
    go_wp2_with fail
    refine bodyPost_ret (v:=.tuple #[.agg #[.pointer pa,.int .u16 n,.slice sA sl sc,.slice vA ls.length vc,.slice uA ul uc],.agg #[.int .i64 ln,.int .i64 0]]) (by simp [results,Tryz.results56,go_sem,r0,r1,r2,r3,r4,s0,s1]) rfl ?_
    exact A86P.mk (belAt (belAt (belAt (belAt (belAt (belAt (belAt BW.out (w.heap.size+1+1) (by omega) _ _) (w.heap.size+1+1) (by omega) _ _) (w.heap.size+1+1) (by omega) _ _) (w.heap.size+1+1) (by omega) _ _) (w.heap.size+1+1) (by omega) _ _) (w.heap.size+1+1+1) (by omega) _ _) (w.heap.size+1+1+1) (by omega) _ _).drew)
def Ton86 (b:Nat) (w:World):Prop:=∃ v,w.heap[b]? = some (.cells #[v,.bool false] 136 (0,0))
theorem info_boolF:(Tryz.prog.info? 4).map (fun i=>(i.zero,i.size,i.bytes))=some (some (.bool false),1,1):=by kernel_rfl
theorem mk_bools (n:Nat) (hn:n<=1000000) (W:World):∃ o,(Instr.makeSlice 134 (.int .i64 n) (.int .i64 n)).run Tryz.prog W=.ok (.slice (some ⟨W.heap.size,0,none⟩) n n) (W.alloc o):=by
 obtain ⟨i,hi,hz0,hz1,hz2⟩:=info_parts info_boolF
 have h:=run_makeSlice (P:=Tryz.prog) (w:=W) 134 4 i (.bool false) Tryz.underlying134 hi hz0 .i64 .i64 n n (by omega) (by omega) (by rw [hz1];omega) (by rw [hz2];omega) (by omega)
 exact ⟨_,by simpa using h⟩
theorem a86_1_enter (args:Array Value) (W:World):(callFunc 55 args).run Tryz.prog W=.ok (.enter 55 args) W:=enters_of Tryz.func55 (by kernel_rfl) rfl args W
theorem a86_2_enter (args:Array Value) (W:World):(callFunc 57 args).run Tryz.prog W=.ok (.enter 57 args) W:=enters_of Tryz.func57 (by kernel_rfl) rfl args W
theorem a86_1_any (b n:Nat) (hn:n<=1000000) (w:World) (h:Ton86 b w):Calls Tryz.prog 55 #[.int .i64 n,.pointer (some ⟨b,0,none⟩)] w fun e w'=>e=.returned (tonV true b)/\Turn [b] w [b] w'/\Ton86 b w':=by
 obtain ⟨v,hb⟩:=h
 obtain ⟨o,ho⟩:=mk_bools n hn w
 have HB:=LH hb
 have h1:=(Below.heap_alloc w o b (loh hb)).trans hb
 have f0:=foh (i:=0) h1
 have H1:=LH h1
 have c0:=coh (i:=0) h1
 clear hb h1
 generalize hw:w.alloc o=w1 at *
 simp at f0 c0
 go_enter Tryz.func55, Tryz.ntmps55
 go_wp2_with fail
 go_ret
 subst hw
 exact ⟨rfl,((Turn.refl [b] w).alloc o).set b 0 _ (.inl (by simp)),_,heap_set (i:=0) _ H1.out⟩
theorem a86_2_any (b:Nat) (w:World) (h:Ton86 b w):Calls Tryz.prog 57 #[.pointer (some ⟨b,0,none⟩)] w fun e w'=>e=.returned (.bool false)/\Turn [b] w [b] w':=by
 obtain ⟨v,hb⟩:=h
 have f1:=foh (i:=1) hb
 have c1:=coh (i:=1) hb
 simp at f1 c1
 go_enter Tryz.func57, Tryz.ntmps57
 go_wp2_with fail
 go_ret
 exact ⟨rfl,(Turn.refl [b] w).set b 1 _ (.inl (by simp))⟩
theorem asm86_any (s:List UInt8) (w:World) (hg:GWL w) (hl:s.length<=100000) (hx:∀ x∈(srcS 2 s).1,InsC x) (hz:(asmF fdC 2 s).2=(0,0)) (hfew:(asmF fdC 2 s).1.lines.length<=1000000):Calls Tryz.prog 21 #[.string ⟨s.toArray⟩] w (A86P w 0 0):=by
 have HS:=LH (fun (W:World) (b:Nat) (hW:Below w.heap.size w W) (hB:w.heap.size<=b) (hb:b<W.heap.size) (hq:Ton86 b W)=>
  esrc_any 2 true b fdC fdC_fine [b] b (Ton86 b) (fun W1 W2 hk h=>by obtain ⟨v,h⟩:=h;exact ⟨v,(hk b (by simp)).trans h⟩) 55 57 #[.pointer (some ⟨b,0,none⟩)] #[.pointer (some ⟨b,0,none⟩)] a86_1_enter a86_2_enter s W (hg.below hW) hl (fun k hk=>by simp at hk;subst hk;exact ⟨Nat.le_refl _,hb⟩) (Nat.le_of_lt hb) hq
   (fun x h=>find86 x (hx x h) b b w W hg hW hB) (fun n W2 hn h=>a86_1_any b n hn W2 h) (fun W2 h=>a86_2_any b W2 h))
 have hn1:=a86_1_enter
 have hn2:=a86_2_enter
 generalize asmF fdC 2 s=R at *
 obtain ⟨eg,ln,lk⟩:=R
 simp only [Prod.mk.injEq] at hz hfew
 obtain ⟨rfl,rfl⟩:=hz
 have HFEW:=LH hfew
 have h1:(w.alloc (.cells #[.pointer none,.int .u16 0,.slice none 0 0,.slice none 0 0,.slice none 0 0] 86)).heap.size=w.heap.size+1:=by simp
 have h2:((w.alloc (.cells #[.pointer none,.int .u16 0,.slice none 0 0,.slice none 0 0,.slice none 0 0] 86)).alloc (.cells #[.int .i64 0,.int .i64 0] 29)).heap.size=w.heap.size+1+1:=by simp
 have p0:=heap_alloc_new w (.cells #[.pointer none,.int .u16 0,.slice none 0 0,.slice none 0 0,.slice none 0 0] 86)
 have p1:=heap_last h1 (.cells #[.int .i64 0,.int .i64 0] 29)
 have P2:=LH (heap_last h2 (.cells #[.slice none 0 0,.bool false] 136))
 have P1:=LH ((Below.heap_alloc _ (.cells #[.slice none 0 0,.bool false] 136) (w.heap.size+1) (by rw [h2];omega)).trans p1)
 have P0:=LH ((Below.heap_alloc _ (.cells #[.slice none 0 0,.bool false] 136) w.heap.size (by rw [h2];omega)).trans ((Below.heap_alloc _ (.cells #[.int .i64 0,.int .i64 0] 29) w.heap.size (by rw [h1];omega)).trans p0))
 have B3:=LH ((((Below.refl w.heap.size w).alloc (Nat.le_refl _) (.cells #[.pointer none,.int .u16 0,.slice none 0 0,.slice none 0 0,.slice none 0 0] 86)).alloc (by rw [h1];omega) (.cells #[.int .i64 0,.int .i64 0] 29)).alloc (by rw [h2];omega) (.cells #[.slice none 0 0,.bool false] 136))
 clear h1 h2 p0 p1 hx hl hg
 go_enter Tryz.func21, Tryz.ntmps21
 go_wp2_with fail
 generalize ((w.alloc (.cells #[.pointer none,.int .u16 0,.slice none 0 0,.slice none 0 0,.slice none 0 0] 86)).alloc (.cells #[.int .i64 0,.int .i64 0] 29)).alloc (.cells #[.slice none 0 0,.bool false] 136)=w3 at *
 refine (HS.out w3 (w.heap.size+1+1) B3.out (by omega) (loh P2.out) ⟨_,P2.out⟩).mono ?_
 rintro e w5 ⟨pa,nn,sA,sl,sc,lA,ll,lc,uA,ul,uc,rfl,hb5,hmade⟩
 have hw3:w.heap.size+1+1<w3.heap.size:=loh P2.out
 have P15:=LH ((hb5.block (w.heap.size+1) (by omega)).trans P1.out)
 have P05:=LH ((hb5.block w.heap.size (by omega)).trans P0.out)
 have B5:=LH (B3.out.trans (hb5.mono (by omega)))
 have HT:=LH (told86_good eg 0 w3.heap.size HFEW.out pa nn sA sl sc lA ll lc uA ul uc w5 (hmade rfl))
 have hw5:w.heap.size+1<w5.heap.size:=loh P15.out
 clear hb5 hmade P0 P1 P2 B3 HS
 simp only
 go_wp2_with fail
 refine HT.out.mono ?_
 rintro e w6 ⟨pa',nn',sA',sl',sc',lA',ll',lc',uA',ul',uc',rfl,hb6⟩
 have B6:=LH (bthen B5.out hb6)
 have P06:=LH ((hb6.block w.heap.size (by omega)).trans P05.out)
 have P16:=LH ((hb6.block (w.heap.size+1) hw5).trans P15.out)
 have r0:=coh (i:=0) P06.out
 have t0:=foh (i:=0) P06.out
 have r1:=coh (i:=1) P06.out
 have t1:=foh (i:=1) P06.out
 have r2:=coh (i:=2) P06.out
 have t2:=foh (i:=2) P06.out
 have r3:=coh (i:=3) P06.out
 have t3:=foh (i:=3) P06.out
 have r4:=coh (i:=4) P06.out
 have t4:=foh (i:=4) P06.out
 have s0:=coh (i:=0) P16.out
 have p0:=foh (i:=0) P16.out
 have s1:=coh (i:=1) P16.out
 have p1:=foh (i:=1) P16.out
 simp at r0 r1 r2 r3 r4 t0 t1 t2 t3 t4 s0 s1 p0 p1
 clear hb6 HT
 simp only
 go_wp2_with fail
 refine bodyPost_ret (v:=.tuple #[.agg #[.pointer pa',.int .u16 nn',.slice sA' sl' sc',.slice lA' ll' lc',.slice uA' ul' uc'],.agg #[.int .i64 0,.int .i64 0]]) (by simp [results,Tryz.results21,go_sem,r0,r1,r2,r3,r4,s0,s1]) rfl ?_
 exact A86P.mk (((((((B6.out.setCell (Nat.le_refl _) _).setCell (Nat.le_refl _) _).setCell (Nat.le_refl _) _).setCell (Nat.le_refl _) _).setCell (Nat.le_refl _) _).setCell (Nat.le_succ _) _).setCell (Nat.le_succ _) _)
theorem a86_xt1 (w:World) (hg:GWL w):Calls Tryz.prog 21 #[.string ⟨xt1.toArray⟩] w (A86P w 0 0):=asm86_any xt1 w hg (by decide) insC_xt1 asm_xt1 (by decide +kernel)
theorem a86_xt2 (w:World) (hg:GWL w):Calls Tryz.prog 21 #[.string ⟨xt2.toArray⟩] w (A86P w 0 0):=asm86_any xt2 w hg (by decide) insC_xt2 asm_xt2 (by decide +kernel)
end Go.Proofs.YtbdnbfacalfciaaGreatDoor
