/- Xl9. -/
import Derived.Test.YtbdnbfacalfciaaGreatDoorXn
import Derived.Test.YtbdnbfacalfciaaGreatDoorXg
import Derived.Test.YtbdnbfacalfciaaGreatDoorUb
import Derived.Test.YtbdnbfacalfciaaGreatDoorLs
namespace Go.Proofs.YtbdnbfacalfciaaGreatDoor
open Go.RowKit
def LnR (w:World) (B:Nat) (v:Value) (ls:List Lin):Prop:=∃ (A:Option Addr) (c:Nat) (bs ss:Nat->Value),v=.slice A ls.length c/\ls.length<=c /\
 (0<ls.length->∃ g o,A=some ⟨g,o,none⟩/\g<B/\∀ i (hi:i<ls.length),∀ j u,(liCells ls[i] (.agg #[bs i,ss i]))[j]? = some u->w.cell? ⟨g,o+i * 9+j,none⟩=some u) /\
 ∀ i (hi:i<ls.length),BytS w (· < B) (bs i) ls[i].b/\∃ sA sc,ss i=.slice sA ls[i].e.sub.length sc
theorem LnR.at {w w':World} {B B':Nat} {v:Value} {ls:List Lin} (h:LnR w B v ls) (hb:Below B w w') (hB:B<=B'):LnR w' B' v ls:=by
 obtain ⟨A,c,bs,ss,h1,h2,h3,h4⟩:=h
 refine ⟨A,c,bs,ss,h1,h2,fun h0=>?_,fun i hi=>?_⟩
 ·obtain ⟨g,o,g1,g2,g3⟩:=h3 h0
  exact ⟨g,o,g1,Nat.lt_of_lt_of_le g2 hB,fun i hi j u hu=>(hb.cell g2).trans (g3 i hi j u hu)⟩
 ·obtain ⟨q1,q2⟩:=h4 i hi
  exact ⟨q1.keep (fun p hp=>hb.cell hp) (fun g hg=>Nat.lt_of_lt_of_le hg hB),q2⟩
theorem LnR.get {w:World} {B n c:Nat} {A:Option Addr} {ls:List Lin} (h:LnR w B (.slice A n c) ls) (i:Nat) (hi:i<ls.length) :
  ∃ (g o:Nat) (bA:Option Addr) (bc:Nat) (sA:Option Addr) (sc:Nat),A=some ⟨g,o,none⟩/\g<B/\w.cell? ⟨g,o+i * 9,none⟩=some (.int .i64 ls[i].n)/\w.cell? ⟨g,o+i * 9+1,none⟩=some (.int .u16 ls[i].pl)/\w.cell? ⟨g,o+i * 9+2,none⟩=some (.int .i64 ls[i].kind) /\
   w.cell? ⟨g,o+i * 9+3,none⟩=some (.slice bA ls[i].b.length bc)/\w.cell? ⟨g,o+i * 9+4,none⟩=some (.int .u16 ls[i].v)/\w.cell? ⟨g,o+i * 9+5,none⟩=some (.string ⟨ls[i].e.op.toArray⟩)/\w.cell? ⟨g,o+i * 9+6,none⟩=some (.int .u16 ls[i].e.n)/\w.cell? ⟨g,o+i * 9+7,none⟩=some (.string ⟨ls[i].e.name.toArray⟩)/\w.cell? ⟨g,o+i * 9+8,none⟩=some (.slice sA ls[i].e.sub.length sc) /\
   ∀ (_hb:0<ls[i].b.length),∃ gb ob,bA=some ⟨gb,ob,none⟩/\gb<B/\∀ j (hj:j<ls[i].b.length),w.cell? ⟨gb,ob+j,none⟩=some (bv ls[i].b[j]):=by
 obtain ⟨A',c',bs,ss,h1,h2,h3,h4⟩:=h
 injection h1 with h1 _ _
 subst h1
 obtain ⟨g,o,g1,g2,g3⟩:=h3 (by omega)
 obtain ⟨⟨bA,bc,q1,_,q3⟩,sA,sc,q4⟩:=h4 i hi
 have G:=g3 i hi
 rw [q1,q4] at G
 refine ⟨g,o,bA,bc,sA,sc,g1,g2,G 0 _ rfl,G 1 _ rfl,G 2 _ rfl,G 3 _ rfl,G 4 _ rfl,G 5 _ rfl,G 6 _ rfl,G 7 _ rfl,G 8 _ rfl,fun hb=>?_⟩
 obtain ⟨gb,ob,e1,e2,e3⟩:=q3 hb
 exact ⟨gb,ob,e1,e2,fun j hj=>e3 j _ (by simp [hj])⟩
theorem LnR.form {w:World} {B:Nat} {v:Value} {ls:List Lin} (h:LnR w B v ls):∃ A c,v=.slice A ls.length c/\ls.length<=c:=by
 obtain ⟨A,c,bs,ss,h1,h2,_⟩:=h
 exact ⟨A,c,h1,h2⟩
def opL0 (l:Lin):Nat:=(l.b.getD 0 0).toNat
def jumpL (l:Lin):Bool:=l.kind == 1 && jumps80 (opL0 l)
def usesL (code:List (List UInt8)) (src:List St) (l:Lin):Bool:=l.kind != 3 && !jumpL l && ((src.getD (l.n - 1) st0).args.any fun a=>(namesE a.e).any fun s=>decide (s∈code))
def compL (has:List Nat) (l:Lin):Bool:=l.kind == 1 && (opL0 l == 233 || (jumps80 (opL0 l) && !decide (l.v∈has)))
def probX (ls:List Lin) (src:List St) (has:List Nat) (code:List (List UInt8)) (nn entry:Nat):Nat × Nat:=
 match ls.find? (usesL code src) with
 | some l=>(l.n,9)
 | none=>match ls.find? (compL has) with
  | some l=>(l.n,10)
  | none=>if 0<nn/\entry∉has then (0,10) else (0,0)
structure LnOk (src:List St) (l:Lin):Prop where
 n1:1<=l.n
 n2:l.n<=src.length
 k3:l.kind<=3
 b1:l.kind=1->0<l.b.length
 v1:l.v<=65535
 nr:l.kind=1->(bits .and .u8 (opL0 l:Nat) 199 == 199)=false
def StNm (s:St):Prop:=∀ a∈s.args,(rightE a.e 24=true∨a.e=ex0)/\(∀ m∈namesE a.e,m.length<=1000)/\(namesE a.e).length<=100000000
theorem named_enter (args:Array Value) (W:World):(callFunc 38 args).run Tryz.prog W=.ok (.enter 38 args) W:=enters_of Tryz.func38 (by kernel_rfl) rfl args W
theorem PrgAt.at {w w':World} {p:Nat} {iv:Value} {entry:Nat} {sv lv uv nv srcv:Value} {hb cb:Nat} (h:PrgAt w p iv entry sv lv uv nv hb cb srcv) (hb2:Below w.heap.size w w'):PrgAt w' p iv entry sv lv uv nv hb cb srcv:=(hb2.block p (loh h)).trans h
theorem SetF.bel {α:Type} {f:α->Lit} {kt:TypeId} {w w':World} {b:Nat} {xs:List α} (h:SetF f kt w b xs) (hb:Below w.heap.size w w'):SetF f kt w' b xs:=h.keep (hb.block b h.lt)
set_option maxHeartbeats 16000000 in
set_option maxRecDepth 100000 in
theorem problem_any (p hb cb:Nat) (iv:Value) (entry:Nat) (sv lv uv srcv:Value) (nA:Option Addr) (nn nc:Nat) (ls:List Lin) (src:List St) (has:List Nat) (code:List (List UInt8)) (w:World) (hp:PrgAt w p iv entry sv lv uv (.slice nA nn nc) hb cb srcv) (he:entry<=65535)
  (hls:LnR w w.heap.size lv ls) (hsrc:StAt w (· < w.heap.size) srcv src) (hh:SetU w hb has) (hc:SetS w cb code) (hok:∀ l∈ls,LnOk src l) (hnm:∀ s∈src,StNm s) (hl:ls.length<=1000000) (hsl:src.length<=1000000) :
  Calls Tryz.prog 11 #[.pointer (some ⟨p,0,none⟩)] w fun e w'=>e=.returned (.agg #[.int .i64 ((probX ls src has code nn entry).1:Nat),.int .i64 ((probX ls src has code nn entry).2:Nat)])/\Below w.heap.size w w':=by
 have hplt:=loh hp
 have c3:=coh (i:=3) hp
 have c5:=coh (i:=5) hp
 have c6:=coh (i:=6) hp
 have c8:=coh (i:=8) hp
 have c1:=coh (i:=1) hp
 simp at c1 c3 c5 c6 c8
 obtain ⟨LA,lc,rfl,hlc⟩:=hls.form
 obtain ⟨SA,sc,rfl,hsc,hsm⟩:=hsrc.form
 have HP:=LH hp
 have HLS:=LH hls
 have HSRC:=LH hsrc
 have HH:=LH hh
 have HC:=LH hc
 have HOK:=LH hok
 have HNM:=LH hnm
 have HR:Hid (probX ls src has code nn entry=match ls.find? (usesL code src) with | some l=>(l.n,9) | none=>match ls.find? (compL has) with | some l=>(l.n,10) | none=>if 0<nn/\entry∉has then (0,10) else (0,0)):=LH rfl
 generalize probX ls src has code nn entry=R at *
 have hn:=heap_alloc_new w (.cells #[.int .i64 0,.int .i64 0] 29)
 have HN:=LH hn
 clear hp hls hsrc hh hc hok hnm hn
 have HB1:=LH ((Below.refl w.heap.size w).alloc (Nat.le_refl _) (.cells #[.int .i64 0,.int .i64 0] 29))
 go_enter Tryz.func11, Tryz.ntmps11
 go_wp2_with fail
 go_loopw [15] (fun i wr=>∃ k:Nat,k<=ls.length/\i=.int .i64 k/\Below w.heap.size w wr/\wr.heap[w.heap.size]? = some (.cells #[.int .i64 0,.int .i64 0] 29 (0,0))/\(∀ j (hj:j<ls.length),j<k->usesL code src ls[j]=false)) (fun i _=>ls.length - (intOf i).toNat)
 case atStart=>exact ⟨0,Nat.zero_le _,rfl,HB1.out,HN.out,fun j _ hj=>absurd hj (by omega)⟩
 case round=>
  obtain ⟨k,hk,rfl,hb,hbx,hall⟩:=hrel
  have HB:=LH hb
  have HBX:=LH hbx
  have HALL:=LH hall
  have hsz:=hb.size
  clear hall
  by_cases hlt:k<ls.length
  ·have i1:(k:Int)<(ls.length:Int):=by omega
   have hlo:=HOK.out _ (List.getElem_mem hlt)
   obtain ⟨g,o,bA,bc,sA,sc2,rfl,hg,a0,a1,a2,a3,a4,a5,a6,a7,a8,hby⟩:=HLS.out.get k hlt
   have d0:=(hb.cell (p:=⟨g,o+k * 9,none⟩) hg).trans a0
   have d1:=(hb.cell (p:=⟨g,o+k * 9+1,none⟩) hg).trans a1
   have d2:=(hb.cell (p:=⟨g,o+k * 9+2,none⟩) hg).trans a2
   have d3:=(hb.cell (p:=⟨g,o+k * 9+3,none⟩) hg).trans a3
   have d4:=(hb.cell (p:=⟨g,o+k * 9+4,none⟩) hg).trans a4
   have d5:=(hb.cell (p:=⟨g,o+k * 9+5,none⟩) hg).trans a5
   have d6:=(hb.cell (p:=⟨g,o+k * 9+6,none⟩) hg).trans a6
   have d7:=(hb.cell (p:=⟨g,o+k * 9+7,none⟩) hg).trans a7
   have d8:=(hb.cell (p:=⟨g,o+k * 9+8,none⟩) hg).trans a8
   have HFIND:Hid (usesL code src ls[k]=true->R=(ls[k].n,9)):=LH (fun hu=>by
    have h1:ls.find? (usesL code src)=some ls[k]:=List.find?_eq_some_iff_getElem.2 ⟨hu,k,hlt,rfl,fun j hj=>by simp [HALL.out j (by omega) hj]⟩
    have h2:=HR.out
    rw [h1] at h2
    exact h2)
   have HNEXT:Hid (usesL code src ls[k]=false->∀ j (hj:j<ls.length),j<k+1->usesL code src ls[j]=false):=LH (fun hu j hj hjk=>by
    by_cases e:j=k
    ·subst e;exact hu
    ·exact HALL.out j hj (by omega))
   have HBY:=LH hby
   have HLO:=LH hlo
   generalize ls[k]=x at *
   obtain ⟨n,pl,kind,b,v,e⟩:=x
   simp only at d0 d1 d2 d3 d4 d5 d6 d7 d8
   have BLF:=LH (fun (kv:Value) (bA:Option Addr)=>hb.alloc hsz (.cells #[.int .i64 (n:Nat),.int .u16 (pl:Nat),kv,.slice bA b.length bc,.int .u16 (v:Nat),.string ⟨e.op.toArray⟩,.int .u16 (e.n:Nat),.string ⟨e.name.toArray⟩,.slice sA e.sub.length sc2] 109))
   clear a0 a1 a2 a3 a4 a5 a6 a7 a8 hby hlo hb hbx HALL
   have NLF:=LH (fun (kv:Value) (bA:Option Addr)=>heap_alloc_new wr (.cells #[.int .i64 (n:Nat),.int .u16 (pl:Nat),kv,.slice bA b.length bc,.int .u16 (v:Nat),.string ⟨e.op.toArray⟩,.int .u16 (e.n:Nat),.string ⟨e.name.toArray⟩,.slice sA e.sub.length sc2] 109))
   have HBX1:=LH (fun o1=>(Below.heap_alloc wr o1 w.heap.size (loh HBX.out)).trans HBX.out)
   have hskip:(kind=3∨jumpL ⟨n,pl,kind,b,v,e⟩=true)∨(kind≠3/\jumpL ⟨n,pl,kind,b,v,e⟩=false):=by
    cases jumpL ⟨n,pl,kind,b,v,e⟩ <;> simp <;> omega
   have hkk:kind=3∨kind=1∨kind=0∨kind=2:=by have:=HLO.out.k3;simp only at this;omega
   have HJ:=LH (fun W=>jumps80_any (opL0 ⟨n,pl,kind,b,v,e⟩) (by unfold opL0;exact UInt8.toNat_lt _) W)
   have hb0:kind=1->∃ gb ob,bA=some ⟨gb,ob,none⟩/\wr.cell? ⟨gb,ob,none⟩=some (.int .u8 (opL0 ⟨n,pl,kind,b,v,e⟩:Nat))/\0<b.length:=fun h1=>by
    have h2:=HLO.out.b1 h1
    obtain ⟨gb,ob,e1,e2,e3⟩:=HBY.out h2
    refine ⟨gb,ob,e1,?_,h2⟩
    have h3:=(HB.out.cell (p:=⟨gb,ob+0,none⟩) e2).trans (e3 0 h2)
    rw [Nat.add_zero] at h3
    rw [h3]
    simp [opL0,bv,List.getD_eq_getElem?_getD,show 0<b.length from h2]
   have HUD:Hid (usesL code src ⟨n,pl,kind,b,v,e⟩=(kind != 3 && !jumpL ⟨n,pl,kind,b,v,e⟩ && ((src.getD (n - 1) st0).args.any fun a=>(namesE a.e).any fun s=>decide (s∈code)))):=LH rfl
   have HJD:Hid (jumpL ⟨n,pl,kind,b,v,e⟩=(kind == 1 && jumps80 (opL0 ⟨n,pl,kind,b,v,e⟩))):=LH rfl
   have hop8:((opL0 ⟨n,pl,kind,b,v,e⟩:Nat):Int)<256:=by have:=UInt8.toNat_lt (b.getD 0 0);unfold opL0;simp only;omega
   generalize usesL code src ⟨n,pl,kind,b,v,e⟩=uses at *
   generalize jumpL ⟨n,pl,kind,b,v,e⟩=jm at *
   generalize opL0 ⟨n,pl,kind,b,v,e⟩=op at *
   generalize jumps80 op=jp at *
   rcases hskip with hs | ⟨hk3,hjm⟩
   ·have HU:Hid (uses=false):=LH (by rw [HUD.out];rcases hs with rfl | rfl <;> simp)
    have HNX:=LH (HNEXT.out HU.out)
    clear HUD HNEXT HFIND HU
    have hc2:kind=3∨(kind=1/\jp=true):=by
     rcases hs with h | h
     ·exact .inl h
     ·rw [HJD.out] at h;simp at h;exact .inr h
    clear hs hkk
    rcases hc2 with rfl | ⟨rfl,rfl⟩
    ·clear HJ HJD hb0
     have NL:=LH (NLF.out (.int .i64 3) bA)
     have BL:=LH (BLF.out (.int .i64 3) bA)
     have HBX2:=LH (HBX1.out (.cells #[.int .i64 (n:Nat),.int .u16 (pl:Nat),.int .i64 3,.slice bA b.length bc,.int .u16 (v:Nat),.string ⟨e.op.toArray⟩,.int .u16 (e.n:Nat),.string ⟨e.name.toArray⟩,.slice sA e.sub.length sc2] 109))
     have hzl:w.heap.size<=(wr.alloc (.cells #[.int .i64 (n:Nat),.int .u16 (pl:Nat),.int .i64 3,.slice bA b.length bc,.int .u16 (v:Nat),.string ⟨e.op.toArray⟩,.int .u16 (e.n:Nat),.string ⟨e.name.toArray⟩,.slice sA e.sub.length sc2] 109)).heap.size:=BL.out.size
     go_wp2_with fail
     generalize hw1:wr.alloc (.cells #[.int .i64 (n:Nat),.int .u16 (pl:Nat),.int .i64 3,.slice bA b.length bc,.int .u16 (v:Nat),.string ⟨e.op.toArray⟩,.int .u16 (e.n:Nat),.string ⟨e.name.toArray⟩,.slice sA e.sub.length sc2] 109)=w1 at *
     clear hw1
     have j2:=coh (i:=2) NL.out
     simp at j2
     go_quiet (fail)
     clear j2
     go_wp2_with fail
     go_wp2_with fail
     go_roundw
     case rel=>exact ⟨k+1,by omega,by go_num,below_dn BL.out _,HBX2.out,HNX.out⟩
     case measure=>simp [intOf];omega
    ·obtain ⟨gb,ob,rfl,hcb,hbl⟩:=hb0 rfl
     have i2:(0:Int)<(b.length:Int):=by omega
     have cb1:=fun o1=>new_keep (o:=o1) hcb
     have HJ1:=LH (fun W=>HJ.out W)
     clear HJD hb0
     have NL:=LH (NLF.out (.int .i64 1) (some ⟨gb,ob,none⟩))
     have BL:=LH (BLF.out (.int .i64 1) (some ⟨gb,ob,none⟩))
     have HBX2:=LH (HBX1.out (.cells #[.int .i64 (n:Nat),.int .u16 (pl:Nat),.int .i64 1,.slice (some ⟨gb,ob,none⟩) b.length bc,.int .u16 (v:Nat),.string ⟨e.op.toArray⟩,.int .u16 (e.n:Nat),.string ⟨e.name.toArray⟩,.slice sA e.sub.length sc2] 109))
     have hzl:w.heap.size<=(wr.alloc (.cells #[.int .i64 (n:Nat),.int .u16 (pl:Nat),.int .i64 1,.slice (some ⟨gb,ob,none⟩) b.length bc,.int .u16 (v:Nat),.string ⟨e.op.toArray⟩,.int .u16 (e.n:Nat),.string ⟨e.name.toArray⟩,.slice sA e.sub.length sc2] 109)).heap.size:=BL.out.size
     go_wp2_with ((with_reducible refine (HJ.out _).mono ?_);rintro ej wj ⟨rfl,rfl⟩)
     generalize hw1:wr.alloc (.cells #[.int .i64 (n:Nat),.int .u16 (pl:Nat),.int .i64 1,.slice (some ⟨gb,ob,none⟩) b.length bc,.int .u16 (v:Nat),.string ⟨e.op.toArray⟩,.int .u16 (e.n:Nat),.string ⟨e.name.toArray⟩,.slice sA e.sub.length sc2] 109)=w1 at *
     clear hw1
     have j2:=coh (i:=2) NL.out
     simp at j2
     go_quiet (fail)
     clear j2
     go_wp2_with fail
     go_wp2_with fail
     go_roundw
     case rel=>exact ⟨k+1,by omega,by go_num,below_dn BL.out _,HBX2.out,HNX.out⟩
     case measure=>simp [intOf];omega
   ·obtain ⟨m,rfl⟩:∃ m,n=m+1:=⟨n - 1,by have:=HLO.out.n1;simp only at this;omega⟩
    have hm:m<src.length:=by have:=HLO.out.n2;simp only at this;omega
    obtain ⟨gs,os,va,rfl,hgs,s0,s1,s2,s3,hsargs⟩:=HSRC.out.get m hm
    have hnms:=HNM.out _ (List.getElem_mem hm)
    have HRES:Hid (uses=(src[m].args.any fun a=>(namesE a.e).any fun s=>decide (s∈code))):=LH (by
     rw [HUD.out,hjm,Nat.add_sub_cancel,List.getD_eq_getElem?_getD,List.getElem?_eq_getElem hm]
     have h1:(kind != 3)=true:=by simp [hk3]
     rw [h1]
     rfl)
    have HTB:Hid (∀ W,Below w.heap.size w W->TestB W 38 #[.pointer (some ⟨p,0,none⟩)] src[m].args (fun a=>(namesE a.e).any fun s=>decide (s∈code))):=LH (fun W hW=>⟨named_enter,fun a v W2 ham hW2 hs=>by
     have hB:=hW.trans (hW2.mono hW.size)
     obtain ⟨q1,q2,q3⟩:=hnms a ham
     exact named_any p hb cb iv entry sv _ uv _ _ code a v W2 (HP.out.at hB) (HC.out.bel hB) hs q1 q2 q3⟩)
    have HCB:Hid (∀ W,Below w.heap.size w W->∀ d' os',Calls Tryz.prog 37 #[va,.func (.func 38) #[.pointer (some ⟨p,0,none⟩)] #[]] (Go.Sort.grow (redrawn W d') os') fun e w''=>e=.returned (.bool uses)/\∃ q:Regrown,w''=Go.Sort.grow (redrawn W q.d) q.os):=LH (fun W hW d' os'=>by
     rw [HRES.out]
     have hB:=hW.trans ((below_regrown W d' os').mono hW.size)
     exact Calls.regrown_of (contB_gen _ _ va _ _ _ (HTB.out _ hB) (hsargs.at hB hB.size)))
    obtain ⟨aA,ac,rfl,_,_⟩:=hsargs.form
    have hml:(m:Int)<(src.length:Int):=by omega
    have hm0:(0:Int)<=(m:Int):=by omega
    have hwm:IntKind.i64.wrap (m:Int)=(m:Int):=IntWalk.i64_in _ (by omega)
    have ecast:((m+1:Nat):Int)=(m:Int)+1:=by omega
    clear s0 s1 s2 hsargs hnms HTB HRES HUD
    have hc2:kind=0∨kind=2∨(kind=1/\jp=false):=by
     rcases hkk with h | h | h | h
     ·exact absurd h hk3
     ·rw [HJD.out,h] at hjm;simp at hjm;exact .inr (.inr ⟨h,hjm⟩)
     ·exact .inl h
     ·exact .inr (.inl h)
    clear hkk hk3 hjm
    rcases hc2 with rfl | rfl | ⟨rfl,rfl⟩
    ·clear HJ HJD hb0
     have NL:=LH (NLF.out (.int .i64 0) bA)
     have BL:=LH (BLF.out (.int .i64 0) bA)
     have HBX2:=LH (HBX1.out (.cells #[.int .i64 ((m:Int)+1),.int .u16 (pl:Nat),.int .i64 0,.slice bA b.length bc,.int .u16 (v:Nat),.string ⟨e.op.toArray⟩,.int .u16 (e.n:Nat),.string ⟨e.name.toArray⟩,.slice sA e.sub.length sc2] 109))
     have hzl:w.heap.size<=(wr.alloc (.cells #[.int .i64 ((m:Int)+1),.int .u16 (pl:Nat),.int .i64 0,.slice bA b.length bc,.int .u16 (v:Nat),.string ⟨e.op.toArray⟩,.int .u16 (e.n:Nat),.string ⟨e.name.toArray⟩,.slice sA e.sub.length sc2] 109)).heap.size:=BL.out.size
     simp only [ecast] at NL BL HBX2 hzl
     go_wp2_with fail
     generalize hw1:wr.alloc (.cells #[.int .i64 ((m:Int)+1),.int .u16 (pl:Nat),.int .i64 0,.slice bA b.length bc,.int .u16 (v:Nat),.string ⟨e.op.toArray⟩,.int .u16 (e.n:Nat),.string ⟨e.name.toArray⟩,.slice sA e.sub.length sc2] 109)=w1 at *
     clear hw1
     have j0:=cell_regrown (coh (i:=0) NL.out)
     have j2:=cell_regrown (coh (i:=2) NL.out)
     have j8:=cell_regrown ((BL.out.cell (p:=⟨p,8,none⟩) hplt).trans c8)
     have js:=cell_regrown ((BL.out.cell (p:=⟨gs,os+m * 4+3,none⟩) hgs).trans s3)
     have CB:=LH (HCB.out w1 BL.out)
     refine wp_region_quiet_below (by kernel_rfl) (by kernel_rfl) ?_
     repeat (quiet_step (first | (go_at_call 37;exact CB.out _ _)))
     refine wpQuiet_nil ?_
     intro _ hw'
     obtain ⟨⟨dq,osq⟩,hw''⟩:=hw'
     subst hw''
     have B2:=LH (BL.out.trans ((below_regrown w1 dq osq).mono hzl))
     have HBX3:=LH (((below_regrown w1 dq osq).block w.heap.size (loh HBX2.out)).trans HBX2.out)
     have NL3:=LH (((below_regrown w1 dq osq).block wr.heap.size (loh NL.out)).trans NL.out)
     clear j0 j2 j8 js CB NL HBX2 BL HCB
     generalize Go.Sort.grow (redrawn w1 dq) osq=w2 at *
     have y0:=coh (i:=0) NL3.out
     have x0:=coh (i:=0) HBX3.out
     have x1:=coh (i:=1) HBX3.out
     have z0:=foh (i:=0) HBX3.out
     have z1:=foh (i:=1) HBX3.out
     simp at y0 x0 x1 z0 z1
     cases uses with
     | false=>
      have HNX:=LH (HNEXT.out rfl)
      clear HNEXT HFIND
      go_wp2_with fail
      go_roundw
      case rel=>exact ⟨k+1,by omega,by go_num,B2.out,HBX3.out,HNX.out⟩
      case measure=>simp [intOf];omega
     | true=>
      obtain rfl:=HFIND.out rfl
      clear HNEXT HFIND HR
      go_wp2_with fail
      refine bodyPost_ret (v:=.agg #[.int .i64 ((m+1:Nat):Int),.int .i64 9]) (by simp [results,Tryz.results11,go_sem,x0,x1]) rfl ?_
      exact ⟨rfl,(B2.out.setCell (Nat.le_refl _) _).setCell (Nat.le_refl _) _⟩
    ·clear HJ HJD hb0
     have NL:=LH (NLF.out (.int .i64 2) bA)
     have BL:=LH (BLF.out (.int .i64 2) bA)
     have HBX2:=LH (HBX1.out (.cells #[.int .i64 ((m:Int)+1),.int .u16 (pl:Nat),.int .i64 2,.slice bA b.length bc,.int .u16 (v:Nat),.string ⟨e.op.toArray⟩,.int .u16 (e.n:Nat),.string ⟨e.name.toArray⟩,.slice sA e.sub.length sc2] 109))
     have hzl:w.heap.size<=(wr.alloc (.cells #[.int .i64 ((m:Int)+1),.int .u16 (pl:Nat),.int .i64 2,.slice bA b.length bc,.int .u16 (v:Nat),.string ⟨e.op.toArray⟩,.int .u16 (e.n:Nat),.string ⟨e.name.toArray⟩,.slice sA e.sub.length sc2] 109)).heap.size:=BL.out.size
     simp only [ecast] at NL BL HBX2 hzl
     go_wp2_with fail
     generalize hw1:wr.alloc (.cells #[.int .i64 ((m:Int)+1),.int .u16 (pl:Nat),.int .i64 2,.slice bA b.length bc,.int .u16 (v:Nat),.string ⟨e.op.toArray⟩,.int .u16 (e.n:Nat),.string ⟨e.name.toArray⟩,.slice sA e.sub.length sc2] 109)=w1 at *
     clear hw1
     have j0:=cell_regrown (coh (i:=0) NL.out)
     have j2:=cell_regrown (coh (i:=2) NL.out)
     have j8:=cell_regrown ((BL.out.cell (p:=⟨p,8,none⟩) hplt).trans c8)
     have js:=cell_regrown ((BL.out.cell (p:=⟨gs,os+m * 4+3,none⟩) hgs).trans s3)
     have CB:=LH (HCB.out w1 BL.out)
     refine wp_region_quiet_below (by kernel_rfl) (by kernel_rfl) ?_
     repeat (quiet_step (first | (go_at_call 37;exact CB.out _ _)))
     refine wpQuiet_nil ?_
     intro _ hw'
     obtain ⟨⟨dq,osq⟩,hw''⟩:=hw'
     subst hw''
     have B2:=LH (BL.out.trans ((below_regrown w1 dq osq).mono hzl))
     have HBX3:=LH (((below_regrown w1 dq osq).block w.heap.size (loh HBX2.out)).trans HBX2.out)
     have NL3:=LH (((below_regrown w1 dq osq).block wr.heap.size (loh NL.out)).trans NL.out)
     clear j0 j2 j8 js CB NL HBX2 BL HCB
     generalize Go.Sort.grow (redrawn w1 dq) osq=w2 at *
     have y0:=coh (i:=0) NL3.out
     have x0:=coh (i:=0) HBX3.out
     have x1:=coh (i:=1) HBX3.out
     have z0:=foh (i:=0) HBX3.out
     have z1:=foh (i:=1) HBX3.out
     simp at y0 x0 x1 z0 z1
     cases uses with
     | false=>
      have HNX:=LH (HNEXT.out rfl)
      clear HNEXT HFIND
      go_wp2_with fail
      go_roundw
      case rel=>exact ⟨k+1,by omega,by go_num,B2.out,HBX3.out,HNX.out⟩
      case measure=>simp [intOf];omega
     | true=>
      obtain rfl:=HFIND.out rfl
      clear HNEXT HFIND HR
      go_wp2_with fail
      refine bodyPost_ret (v:=.agg #[.int .i64 ((m+1:Nat):Int),.int .i64 9]) (by simp [results,Tryz.results11,go_sem,x0,x1]) rfl ?_
      exact ⟨rfl,(B2.out.setCell (Nat.le_refl _) _).setCell (Nat.le_refl _) _⟩
    ·obtain ⟨gb,ob,rfl,hcb,hbl⟩:=hb0 rfl
     have i2:(0:Int)<(b.length:Int):=by omega
     have cb1:=fun o1=>new_keep (o:=o1) hcb
     clear HJD hb0
     have NL:=LH (NLF.out (.int .i64 1) (some ⟨gb,ob,none⟩))
     have BL:=LH (BLF.out (.int .i64 1) (some ⟨gb,ob,none⟩))
     have HBX2:=LH (HBX1.out (.cells #[.int .i64 ((m:Int)+1),.int .u16 (pl:Nat),.int .i64 1,.slice (some ⟨gb,ob,none⟩) b.length bc,.int .u16 (v:Nat),.string ⟨e.op.toArray⟩,.int .u16 (e.n:Nat),.string ⟨e.name.toArray⟩,.slice sA e.sub.length sc2] 109))
     have hzl:w.heap.size<=(wr.alloc (.cells #[.int .i64 ((m:Int)+1),.int .u16 (pl:Nat),.int .i64 1,.slice (some ⟨gb,ob,none⟩) b.length bc,.int .u16 (v:Nat),.string ⟨e.op.toArray⟩,.int .u16 (e.n:Nat),.string ⟨e.name.toArray⟩,.slice sA e.sub.length sc2] 109)).heap.size:=BL.out.size
     simp only [ecast] at NL BL HBX2 hzl
     go_wp2_with ((with_reducible refine (HJ.out _).mono ?_);rintro ej wj ⟨rfl,rfl⟩)
     clear cb1
     generalize hw1:wr.alloc (.cells #[.int .i64 ((m:Int)+1),.int .u16 (pl:Nat),.int .i64 1,.slice (some ⟨gb,ob,none⟩) b.length bc,.int .u16 (v:Nat),.string ⟨e.op.toArray⟩,.int .u16 (e.n:Nat),.string ⟨e.name.toArray⟩,.slice sA e.sub.length sc2] 109)=w1 at *
     clear hw1
     have j0:=cell_regrown (coh (i:=0) NL.out)
     have j2:=cell_regrown (coh (i:=2) NL.out)
     have j8:=cell_regrown ((BL.out.cell (p:=⟨p,8,none⟩) hplt).trans c8)
     have js:=cell_regrown ((BL.out.cell (p:=⟨gs,os+m * 4+3,none⟩) hgs).trans s3)
     have CB:=LH (HCB.out w1 BL.out)
     refine wp_region_quiet_below (by kernel_rfl) (by kernel_rfl) ?_
     repeat (quiet_step (first | (go_at_call 37;exact CB.out _ _)))
     refine wpQuiet_nil ?_
     intro _ hw'
     obtain ⟨⟨dq,osq⟩,hw''⟩:=hw'
     subst hw''
     have B2:=LH (BL.out.trans ((below_regrown w1 dq osq).mono hzl))
     have HBX3:=LH (((below_regrown w1 dq osq).block w.heap.size (loh HBX2.out)).trans HBX2.out)
     have NL3:=LH (((below_regrown w1 dq osq).block wr.heap.size (loh NL.out)).trans NL.out)
     clear j0 j2 j8 js CB NL HBX2 BL HCB
     generalize Go.Sort.grow (redrawn w1 dq) osq=w2 at *
     have y0:=coh (i:=0) NL3.out
     have x0:=coh (i:=0) HBX3.out
     have x1:=coh (i:=1) HBX3.out
     have z0:=foh (i:=0) HBX3.out
     have z1:=foh (i:=1) HBX3.out
     simp at y0 x0 x1 z0 z1
     cases uses with
     | false=>
      have HNX:=LH (HNEXT.out rfl)
      clear HNEXT HFIND
      go_wp2_with fail
      go_roundw
      case rel=>exact ⟨k+1,by omega,by go_num,B2.out,HBX3.out,HNX.out⟩
      case measure=>simp [intOf];omega
     | true=>
      obtain rfl:=HFIND.out rfl
      clear HNEXT HFIND HR
      go_wp2_with fail
      refine bodyPost_ret (v:=.agg #[.int .i64 ((m+1:Nat):Int),.int .i64 9]) (by simp [results,Tryz.results11,go_sem,x0,x1]) rfl ?_
      exact ⟨rfl,(B2.out.setCell (Nat.le_refl _) _).setCell (Nat.le_refl _) _⟩
  ·obtain rfl:k=ls.length:=by omega
   have HNO:Hid (ls.find? (usesL code src)=none):=LH (List.find?_eq_none.2 (fun x hx=>by
    obtain ⟨j,hj,rfl⟩:=List.getElem_of_mem hx
    simp [HALL.out j hj hj]))
   have HR2:Hid (R=match ls.find? (compL has) with | some l=>(l.n,10) | none=>if 0<nn/\entry∉has then (0,10) else (0,0)):=LH (by
    have h2:=HR.out
    rw [HNO.out] at h2
    exact h2)
   clear HNO HR HALL hbx hb HSRC HNM HC
   have k3:=(HB.out.cell (p:=⟨p,3,none⟩) hplt).trans c3
   go_wp2_with fail
   go_loopw [61] (fun i wr=>∃ k:Nat,k<=ls.length/\i=.int .i64 k/\Below w.heap.size w wr/\wr.heap[w.heap.size]? = some (.cells #[.int .i64 0,.int .i64 0] 29 (0,0))/\(∀ j (hj:j<ls.length),j<k->compL has ls[j]=false)) (fun i _=>ls.length - (intOf i).toNat)
   case atStart=>exact ⟨0,Nat.zero_le _,rfl,HB.out,HBX.out,fun j _ hj=>absurd hj (by omega)⟩
   case round=>
    obtain ⟨k,hk,rfl,hb,hbx,hall⟩:=hrel
    clear HB HBX hsz k3
    have HB:=LH hb
    have HBX:=LH hbx
    have HALL:=LH hall
    have hsz:=hb.size
    clear hall
    by_cases hlt:k<ls.length
    ·have i1:(k:Int)<(ls.length:Int):=by omega
     have hlo:=HOK.out _ (List.getElem_mem hlt)
     obtain ⟨g,o,bA,bc,sA,sc2,rfl,hg,a0,a1,a2,a3,a4,a5,a6,a7,a8,hby⟩:=HLS.out.get k hlt
     have d0:=(hb.cell (p:=⟨g,o+k * 9,none⟩) hg).trans a0
     have d1:=(hb.cell (p:=⟨g,o+k * 9+1,none⟩) hg).trans a1
     have d2:=(hb.cell (p:=⟨g,o+k * 9+2,none⟩) hg).trans a2
     have d3:=(hb.cell (p:=⟨g,o+k * 9+3,none⟩) hg).trans a3
     have d4:=(hb.cell (p:=⟨g,o+k * 9+4,none⟩) hg).trans a4
     have d5:=(hb.cell (p:=⟨g,o+k * 9+5,none⟩) hg).trans a5
     have d6:=(hb.cell (p:=⟨g,o+k * 9+6,none⟩) hg).trans a6
     have d7:=(hb.cell (p:=⟨g,o+k * 9+7,none⟩) hg).trans a7
     have d8:=(hb.cell (p:=⟨g,o+k * 9+8,none⟩) hg).trans a8
     have HFIND:Hid (compL has ls[k]=true->R=(ls[k].n,10)):=LH (fun hu=>by
      have h1:ls.find? (compL has)=some ls[k]:=List.find?_eq_some_iff_getElem.2 ⟨hu,k,hlt,rfl,fun j hj=>by simp [HALL.out j (by omega) hj]⟩
      have h2:=HR2.out
      rw [h1] at h2
      exact h2)
     have HNEXT:Hid (compL has ls[k]=false->∀ j (hj:j<ls.length),j<k+1->compL has ls[j]=false):=LH (fun hu j hj hjk=>by
      by_cases e:j=k
      ·subst e;exact hu
      ·exact HALL.out j hj (by omega))
     have HBY:=LH hby
     have HLO:=LH hlo
     generalize ls[k]=x at *
     obtain ⟨n,pl,kind,b,v,e⟩:=x
     simp only at d0 d1 d2 d3 d4 d5 d6 d7 d8
     have BLF:=LH (fun (kv:Value) (bA:Option Addr)=>hb.alloc hsz (.cells #[.int .i64 (n:Nat),.int .u16 (pl:Nat),kv,.slice bA b.length bc,.int .u16 (v:Nat),.string ⟨e.op.toArray⟩,.int .u16 (e.n:Nat),.string ⟨e.name.toArray⟩,.slice sA e.sub.length sc2] 109))
     have NLF:=LH (fun (kv:Value) (bA:Option Addr)=>heap_alloc_new wr (.cells #[.int .i64 (n:Nat),.int .u16 (pl:Nat),kv,.slice bA b.length bc,.int .u16 (v:Nat),.string ⟨e.op.toArray⟩,.int .u16 (e.n:Nat),.string ⟨e.name.toArray⟩,.slice sA e.sub.length sc2] 109))
     have HBX1:=LH (fun o1=>(Below.heap_alloc wr o1 w.heap.size (loh HBX.out)).trans HBX.out)
     clear a0 a1 a2 a3 a4 a5 a6 a7 a8 hby hlo hb hbx HALL
     have HCD:Hid (compL has ⟨n,pl,kind,b,v,e⟩=(kind == 1 && (opL0 ⟨n,pl,kind,b,v,e⟩ == 233 || (jumps80 (opL0 ⟨n,pl,kind,b,v,e⟩) && !decide (v∈has))))):=LH rfl
     by_cases hk1:kind=1
     ·have hbl:=HLO.out.b1 hk1
      have hnr:=HLO.out.nr hk1
      obtain ⟨gb,ob,rfl,e2,e3⟩:=HBY.out hbl
      simp only at hk1 hbl e3
      subst hk1
      have hcb:wr.cell? ⟨gb,ob,none⟩=some (.int .u8 (opL0 ⟨n,pl,1,b,v,e⟩:Nat)):=by
       have h3:=(HB.out.cell (p:=⟨gb,ob+0,none⟩) e2).trans (e3 0 hbl)
       rw [Nat.add_zero] at h3
       rw [h3]
       simp [opL0,bv,List.getD_eq_getElem?_getD,hbl]
      have i2:(0:Int)<(b.length:Int):=by omega
      have hop8:opL0 ⟨n,pl,1,b,v,e⟩<256:=UInt8.toNat_lt _
      have HJ:=LH (fun W=>(jumps80_any (opL0 ⟨n,pl,1,b,v,e⟩) hop8 W).mono fun _ _ h=>And.intro h.1 h.2.symm)
      have cb1:=fun o1=>new_keep (o:=o1) hcb
      have hv16:=HLO.out.v1
      simp only at hv16
      generalize compL has ⟨n,pl,1,b,v,e⟩=cp at *
      generalize opL0 ⟨n,pl,1,b,v,e⟩=op at *
      have BL:=LH (BLF.out (.int .i64 1) (some ⟨gb,ob,none⟩))
      have NL:=LH (NLF.out (.int .i64 1) (some ⟨gb,ob,none⟩))
      have HBX2:=LH (HBX1.out (.cells #[.int .i64 (n:Nat),.int .u16 (pl:Nat),.int .i64 1,.slice (some ⟨gb,ob,none⟩) b.length bc,.int .u16 (v:Nat),.string ⟨e.op.toArray⟩,.int .u16 (e.n:Nat),.string ⟨e.name.toArray⟩,.slice sA e.sub.length sc2] 109))
      clear e3 BLF NLF HBX1 HBY HLO
      by_cases ho:op=233
      ·subst ho
       have HU:Hid (cp=true):=LH (by rw [HCD.out];rfl)
       obtain rfl:=HFIND.out HU.out
       clear HFIND HNEXT HCD HJ hnr HU HR2
       have y0:=coh (i:=0) NL.out
       have x0:=coh (i:=0) HBX2.out
       have x1:=coh (i:=1) HBX2.out
       have z0:=foh (i:=0) HBX2.out
       have z1:=foh (i:=1) HBX2.out
       simp at y0 x0 x1 z0 z1
       go_wp2_with fail
       refine bodyPost_ret (v:=.agg #[.int .i64 (n:Nat),.int .i64 10]) (by simp [results,Tryz.results11,go_sem,x0,x1]) rfl ?_
       exact ⟨rfl,(BL.out.setCell (Nat.le_refl _) _).setCell (Nat.le_refl _) _⟩
      ·have e1:((op:Int) == 233)=false:=by rw [beq_eq_false_iff_ne];omega
       have e2:(op == 233)=false:=by rw [beq_eq_false_iff_ne];exact ho
       rw [e2,Bool.false_or,beq_self_eq_true,Bool.true_and] at HCD
       have HLK:∀ n1,(Instr.lookup 51 (.map (some hb)) (.int .u16 (v:Int)) false).run Tryz.prog ((wr.alloc (.cells #[.int .i64 (n:Nat),.int .u16 (pl:Nat),.int .i64 1,.slice (some ⟨gb,ob,none⟩) b.length bc,.int .u16 (v:Nat),.string ⟨e.op.toArray⟩,.int .u16 (e.n:Nat),.string ⟨e.name.toArray⟩,.slice sA e.sub.length sc2] 109)).drewN n1)=.ok (.bool (decide (v∈has))) _:=fun n1=>SetU.at (SetF.bel HH.out (below_dn BL.out n1)) v hv16
       have k6:=(BL.out.cell (p:=⟨p,6,none⟩) hplt).trans c6
       have x0:=coh (i:=0) HBX2.out
       have x1:=coh (i:=1) HBX2.out
       have z0:=foh (i:=0) HBX2.out
       have z1:=foh (i:=1) HBX2.out
       simp at x0 x1 z0 z1
       generalize decide (v∈has)=hv at *
       generalize jumps80 op=jp at *
       go_wp2_with fail
       generalize hw1:wr.alloc (.cells #[.int .i64 (n:Nat),.int .u16 (pl:Nat),.int .i64 1,.slice (some ⟨gb,ob,none⟩) b.length bc,.int .u16 (v:Nat),.string ⟨e.op.toArray⟩,.int .u16 (e.n:Nat),.string ⟨e.name.toArray⟩,.slice sA e.sub.length sc2] 109)=w1 at *
       clear hw1
       have y4:=coh (i:=4) NL.out
       have y0:=coh (i:=0) NL.out
       simp at y0 y4
       cases jp with
       | false=>
        have HNX:=LH (HNEXT.out (by rw [HCD.out];rfl))
        clear HNEXT HFIND HCD HLK
        go_quiet ((go_at_call 36;exact Calls.quiet_of_same (HJ.out _)))
        go_wp2_with fail
        go_roundw
        case rel=>exact ⟨k+1,by omega,by go_num,below_dn BL.out _,HBX2.out,HNX.out⟩
        case measure=>simp [intOf];omega
       | true=>
        go_quiet ((go_at_call 36;exact Calls.quiet_of_same (HJ.out _)))
        cases hv with
        | false=>
         obtain rfl:=HFIND.out (by rw [HCD.out];rfl)
         go_wp2_with fail
         refine bodyPost_ret (v:=.agg #[.int .i64 (n:Nat),.int .i64 10]) (by simp [results,Tryz.results11,go_sem,x0,x1]) rfl ?_
         exact ⟨rfl,((below_dn BL.out _).setCell (Nat.le_refl _) _).setCell (Nat.le_refl _) _⟩
        | true=>
         have HNX:=LH (HNEXT.out (by rw [HCD.out];rfl))
         clear HNEXT HFIND HCD HLK
         go_wp2_with fail
         go_roundw
         case rel=>exact ⟨k+1,by omega,by go_num,below_dn BL.out _,HBX2.out,HNX.out⟩
         case measure=>simp [intOf];omega
     ·have HU:Hid (compL has ⟨n,pl,kind,b,v,e⟩=false):=LH (by rw [HCD.out];simp [hk1])
      have HNX:=LH (HNEXT.out HU.out)
      have e1:((kind:Int) != 1)=true:=by rw [bne_iff_ne];omega
      have BL:=LH (BLF.out (.int .i64 (kind:Nat)) bA)
      have HBX2:=LH (HBX1.out (.cells #[.int .i64 (n:Nat),.int .u16 (pl:Nat),.int .i64 (kind:Nat),.slice bA b.length bc,.int .u16 (v:Nat),.string ⟨e.op.toArray⟩,.int .u16 (e.n:Nat),.string ⟨e.name.toArray⟩,.slice sA e.sub.length sc2] 109))
      clear HU HNEXT HFIND HCD BLF NLF HBX1 HBY HLO
      go_wp2_with fail
      go_roundw
      case rel=>exact ⟨k+1,by omega,by go_num,BL.out,HBX2.out,HNX.out⟩
      case measure=>simp [intOf];omega
    ·obtain rfl:k=ls.length:=by omega
     have HRE:Hid (R=if 0<nn/\entry∉has then (0,10) else (0,0)):=LH (by
      have h1:ls.find? (compL has)=none:=List.find?_eq_none.2 (fun x hx=>by
       obtain ⟨j,hj,rfl⟩:=List.getElem_of_mem hx
       simp [HALL.out j hj hj])
      have h2:=HR2.out
      rw [h1] at h2
      exact h2)
     have k5:=(HB.out.cell (p:=⟨p,5,none⟩) hplt).trans c5
     have k6:=(HB.out.cell (p:=⟨p,6,none⟩) hplt).trans c6
     have k1:=(HB.out.cell (p:=⟨p,1,none⟩) hplt).trans c1
     clear HALL HR2 hbx hb
     have HLK:∀ n1,(Instr.lookup 51 (.map (some hb)) (.int .u16 (entry:Int)) false).run Tryz.prog (wr.drewN n1)=.ok (.bool (decide (entry∈has))) _:=fun n1=>SetU.at (SetF.bel HH.out (below_dn HB.out n1)) entry he
     have x0:=coh (i:=0) HBX.out
     have x1:=coh (i:=1) HBX.out
     have z0:=foh (i:=0) HBX.out
     have z1:=foh (i:=1) HBX.out
     simp at x0 x1 z0 z1
     by_cases hn0:0<nn
     ·have i5:(0:Int)<(nn:Int):=by omega
      by_cases hen:entry∈has
      ·have e5:decide (entry∈has)=true:=by simp [hen]
       obtain rfl:=HRE.out.trans (if_neg (fun h=>h.2 hen))
       rw [e5] at HLK
       clear hen e5 HRE
       go_wp2_with fail
       go_quiet (fail)
       go_wp2_with fail
       refine bodyPost_ret (v:=.agg #[.int .i64 0,.int .i64 0]) (by simp [results,Tryz.results11,go_sem,x0,x1]) rfl ?_
       exact ⟨rfl,((below_dn HB.out _).setCell (Nat.le_refl _) _).setCell (Nat.le_refl _) _⟩
      ·have e5:decide (entry∈has)=false:=by simp [hen]
       obtain rfl:=HRE.out.trans (if_pos ⟨hn0,hen⟩)
       rw [e5] at HLK
       clear hen e5 HRE
       go_wp2_with fail
       go_quiet (fail)
       go_wp2_with fail
       refine bodyPost_ret (v:=.agg #[.int .i64 0,.int .i64 10]) (by simp [results,Tryz.results11,go_sem,x0,x1]) rfl ?_
       exact ⟨rfl,((below_dn HB.out _).setCell (Nat.le_refl _) _).setCell (Nat.le_refl _) _⟩
     ·obtain rfl:nn=0:=by omega
      obtain rfl:=HRE.out.trans (if_neg (fun h=>absurd h.1 (by omega)))
      clear HRE HLK
      go_wp2_with fail
      go_quiet (fail)
      go_wp2_with fail
      refine bodyPost_ret (v:=.agg #[.int .i64 0,.int .i64 0]) (by simp [results,Tryz.results11,go_sem,x0,x1]) rfl ?_
      exact ⟨rfl,((below_dn HB.out _).setCell (Nat.le_refl _) _).setCell (Nat.le_refl _) _⟩
end Go.Proofs.YtbdnbfacalfciaaGreatDoor
