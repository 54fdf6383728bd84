/- Xl17. -/
import Derived.Test.YtbdnbfacalfciaaGreatDoorXp
import Derived.ScopeJumps
import Derived.WalkMore
import Derived.Laws.MakeOwn
namespace Go.Proofs.YtbdnbfacalfciaaGreatDoor
open Go.RowKit
section
variable {P:Program} {ops:Array Oper} {C:World->Prop} {Q:Act->Prop} {a:Act} {o:Oper} {rest:List Oper}
theorem wpQuiet_skip (h:∀ K:Act->Prop,(∀ a,wpQuiet P ops C Q rest a->K a)->K (a.put o.dst undef)) (hw:Region.wanted o (yielded ops a.tmps)=false):wpQuiet P ops C Q (o :: rest) a:=
 wpQuiet_step fun K hK=>by
  rw [if_neg (by rw [hw];exact Bool.false_ne_true)]
  exact h K hK
theorem wpQuiet_go (h:∀ K:Act->Prop,(∀ a,wpQuiet P ops C Q rest a->K a)->o.quiet P a C K) (hw:Region.wanted o (yielded ops a.tmps)=true):wpQuiet P ops C Q (o :: rest) a:=
 wpQuiet_step fun K hK=>by
  rw [if_pos hw]
  exact h K hK
end
theorem mk_ints (W:World):(Instr.makeSlice 24 (.int .i64 2) (.int .i64 2)).run Tryz.prog W=.ok (.slice (some ⟨W.heap.size,0,none⟩) 2 2) (W.alloc (.cells #[.int .i64 0,.int .i64 0] 3)):=by kernel_rfl
theorem mk_rows (W:World):(Instr.makeSlice 119 (.int .i64 2) (.int .i64 2)).run Tryz.prog W=.ok (.slice (some ⟨W.heap.size,0,none⟩) 2 2) (W.alloc (.cells #[.slice none 0 0,.slice none 0 0] 24)):=by kernel_rfl
theorem own_pre {w:World} {base g c:Nat} {e:TypeId} {x y:Value} (h:w.ownsRow base e 1 (.slice (some ⟨g,0,none⟩) 2 c) 2 [x,y]):w.ownsRow base e 1 (.slice (some ⟨g,0,none⟩) 1 c) 1 [x]:=by
 rcases h.2 with ⟨h,_⟩ | ⟨g',cap,cur,e1,hb,hg,h1,h2,h3,h4⟩
 ·cases h
 ·injection e1 with e1 _ e2
  injection e1 with e1
  injection e1 with e1
  subst e1 e2
  refine ⟨rfl,.inr ⟨g,c,cur,rfl,hb,hg,by omega,h2,h3,?_⟩⟩
  have h5:(cur.toList.take (2 * 1)).take 1 = [x]:=by rw [h4];rfl
  rwa [List.take_take] at h5
def liveF (g o c go gw n cw:Nat) (u:Nat->Value):Act:={ tmps:=#[.slice (some ⟨g,o,none⟩) 2 c,u 1,u 2,u 3,u 4,u 5,.slice (some ⟨go,0,none⟩) 2 2,.slice (some ⟨go+1,0,none⟩) 2 2,.slice (some ⟨gw,0,none⟩) n cw,u 9,u 10,u 11,u 12,u 13,u 14,u 15,u 16,u 17,u 18,u 19,u 20,u 21,u 22,u 23,u 24,u 25,u 26,u 27,u 28,u 29,u 30,u 31,u 32,u 33,u 34,u 35,u 36,u 37,u 38,u 39,u 40,u 41,u 42,u 43,u 44,u 45,u 46,u 47,u 48,u 49,u 50,u 51,u 52,u 53,u 54,u 55,u 56,u 57,u 58,u 59,u 60,u 61,u 62,u 63,u 64,u 65,u 66,u 67,u 68,u 69,u 70,u 71,u 72,u 73,u 74,u 75,u 76,u 77,u 78,u 79,u 80,u 81,u 82,u 83,u 84,u 85,u 86,u 87,u 88,u 89,u 90,u 91,u 92,u 93,u 94,u 95,u 96,u 97,u 98,u 99,u 100,u 101,u 102,u 103,u 104,u 105,u 106,u 107,u 108,u 109,u 110,u 111,u 112,u 113,u 114,u 115,u 116,u 117,u 118,u 119,u 120,u 121,u 122,u 123,u 124,u 125,u 126,u 127,u 128,u 129,u 130,u 131,u 132,u 133,u 134,u 135,u 136,u 137,u 138,u 139,u 140,u 141,u 142,u 143,u 144,u 145,u 146,u 147,u 148,u 149,u 150,u 151,u 152,u 153,u 154,u 155],defers:=[] }
def LiveJ (w:World) (g o c:Nat) (a':Act) (w':World):Prop:=∃ (go gw n cw:Nat) (x1:Value) (u:Nat->Value),a'=liveF g o c go gw n cw u/\n<=2/\n<=cw/\(∀ j,j<n->w'.cell? ⟨gw,j,none⟩=some (.int .i64 0)) /\
 w'.heap[go]? = some (.cells #[.int .i64 31,.int .i64 31] 3 (0,0))/\w'.heap[go+1]? = some (.cells #[.slice none 0 0,x1] 24 (0,0))/\w.heap.size<=go/\Below w.heap.size w w'
theorem LiveJ.mk {w:World} {g o c:Nat} {a':Act} {w':World} (go gw n cw:Nat) (x1:Value) (h:a'=liveF g o c go gw n cw (fun i=>a'.tmps.getD i undef)) (h1:n<=2) (h2:n<=cw) (h3:∀ j,j<n->w'.cell? ⟨gw,j,none⟩=some (.int .i64 0))
  (h4:w'.heap[go]? = some (.cells #[.int .i64 31,.int .i64 31] 3 (0,0))) (h5:w'.heap[go+1]? = some (.cells #[.slice none 0 0,x1] 24 (0,0))) (h6:w.heap.size<=go) (h7:Below w.heap.size w w'):LiveJ w g o c a' w':=⟨go,gw,n,cw,x1,_,h,h1,h2,h3,h4,h5,h6,h7⟩
def lenV:Value->Nat
 | .slice _ n _=>n
 | _=>0
set_option maxHeartbeats 4000000 in
set_option maxRecDepth 100000 in
theorem live_two (a b:Nd) (v:Value) (w:World) (hg:NdR w w.heap.size v [a,b]) (ha:a.op=33∨a.op=35) (hb:b.op=118) (hn:a.pl+size80 a.op=b.pl) (hp:b.pl<=65535) :
  Calls Tryz.prog 12 #[v] w fun e w'=>∃ g c,e=.returned (.tuple #[.slice (some ⟨g,0,none⟩) 2 c,.int .i64 0])/\w'.cell? ⟨g,0,none⟩=some (.int .i64 31)/\w'.cell? ⟨g,1,none⟩=some (.int .i64 31)/\w.heap.size<=g/\g<w'.heap.size/\Below w.heap.size w w':=by
 have hz:0<size80 a.op/\size80 a.op<=3:=by rcases ha with e | e <;> rw [e] <;> decide
 have HIS:=LH (issort_any [a,b] v w hg (by simp) (by simp) (fun i hi=>by
  have:i=0:=by simp at hi;omega
  subst this
  show a.pl<=b.pl
  omega))
 have HG:=LH hg
 have hne:a.pl≠b.pl:=by omega
 have hza:∃ z:Nat,size80 a.op=z/\0<z:=⟨_,rfl,hz.1⟩
 have HSA:=LH (fun W=>size80_any a.op (by rcases ha with e | e <;> rw [e] <;> decide) W)
 have HSB:=LH (fun W=>size80_any b.op (by rw [hb];decide) W)
 have hfi:[a,b].findIdx? (·.pl == (a.pl+size80 a.op) % 65536)=some 1:=by
  have e1:(a.pl+size80 a.op) % 65536=b.pl:=by omega
  rw [e1]
  simp [List.findIdx?_cons,hne]
 have HNA:=LH (fun W (hW:Below w.heap.size w W)=>next_on [a,b] 0 1 a.op v W (Rd.more (Rd.below hg hW) hW.size) (by simp) (by simp) rfl ha hfi)
 have HNB:=LH (fun W (hW:Below w.heap.size w W)=>next_halt [a,b] 1 v W (Rd.more (Rd.below hg hW) hW.size) (by simp) hb)
 clear hfi
 obtain ⟨za,eza,hza⟩:=hza
 have ezb:size80 b.op=1:=by rw [hb];decide
 rw [eza] at HSA
 rw [ezb] at HSB
 have HA:=LH ha
 have HUA:=LH (fun W=>uses_of a.op (by rcases ha with e | e <;> simp [e]) W)
 have HTA:=LH (fun W=>sets_of a.op (by rcases ha with e | e <;> simp [e]) W)
 have HUB:=LH (fun W=>uses_of b.op (by simp [hb]) W)
 have HTB:=LH (fun W=>sets_of b.op (by simp [hb]) W)
 have HB:=LH hb
 have HNX:=LH hn
 have HP:=LH hp
 have EZA:=LH eza
 have HNE:=LH hne
 obtain ⟨A,c,rfl,hc,_⟩:=id hg
 obtain ⟨g,o,rfl,hgl,a0,a1,a2⟩:=hg.get 0 (by simp)
 obtain ⟨g',o',e1,_,b0,b1,b2⟩:=hg.get 1 (by simp)
 injection e1 with e1
 injection e1 with e1 e2
 subst e1 e2
 simp only [List.getElem_cons_zero,List.getElem_cons_succ,Nat.zero_mul,Nat.add_zero,Nat.one_mul] at a0 a1 a2 b0 b1 b2
 have A0:=LH a0
 have A1:=LH a1
 have A2:=LH a2
 have B0:=LH b0
 have B1:=LH b1
 have B2:=LH b2
 have hlen:[a,b].length=2:=rfl
 rw [hlen] at HIS HNA HNB ⊢
 clear hlen hg ha hb hn hp hz hne a0 a1 a2 b0 b1 b2 eza ezb
 go_enter Tryz.func12, Tryz.ntmps12
 go_wp2_with fail
 refine wp_scope_jumps 0 (LiveJ w g o c) (fun a' _=>lenV (a'.tmps.getD 8 undef)) rfl ?first ?pass
 case first=>
  go_wp2_with fail
  refine HIS.out.mono ?_
  rintro e w1 ⟨rfl,hb1⟩
  have HB1:=LH hb1
  clear HIS hb1
  go_wp2_with fail
  go_loopw [23] (fun i wr=>∃ k:Nat,k<=2/\i=.int .i64 k/\Below w.heap.size w wr) (fun i _=>2 - (intOf i).toNat)
  case atStart=>exact ⟨0,by decide,rfl,HB1.out⟩
  case round=>
   clear HB1
   obtain ⟨k,hk,rfl,hb⟩:=hrel
   have hsz:=hb.size
   have HBW:=LH hb
   have hgw:g<wr.heap.size:=Nat.lt_of_lt_of_le hgl hsz
   have hk3:k=0∨k=1∨k=2:=by omega
   have d0:=(hb.cell (p:=⟨g,o,none⟩) hgl).trans A0.out
   clear hk hb
   rcases hk3 with rfl | rfl | rfl
   ·have d1:=(HBW.out.cell (p:=⟨g,o+1,none⟩) hgl).trans A1.out
    have d2:=(HBW.out.cell (p:=⟨g,o+2,none⟩) hgl).trans A2.out
    have eA:((za:Int) == 0)=false:=by rw [beq_eq_false_iff_ne];omega
    go_wp2_with fail
    have hx:=heap_alloc_new wr (.cells #[.int .u16 (a.pl:Nat),.int .u8 (a.op:Nat),.int .u16 (a.n:Nat)] 58)
    have k1:=coh (i:=1) hx
    have HBX:=LH (HBW.out.alloc HBW.out.size (.cells #[.int .u16 (a.pl:Nat),.int .u8 (a.op:Nat),.int .u16 (a.n:Nat)] 58))
    clear d0 d1 d2
    generalize wr.alloc (.cells #[.int .u16 (a.pl:Nat),.int .u8 (a.op:Nat),.int .u16 (a.n:Nat)] 58)=w5 at *
    simp at k1
    have j1:=cell_regrown k1
    have CA:=LH (fun d os=>Calls.regrown_of (HSA.out (Go.Sort.grow (redrawn w5 d) os)))
    clear k1 hx
    refine wp_region_quiet_below (by kernel_rfl) (by kernel_rfl) ?_
    iterate 5 (quiet_step (first | (go_at_call 14;exact CA.out _ _)))
    iterate 3 ((with_reducible refine wpQuiet_go (fun K hK=>?_) ?_);rotate_left;rfl;go_simp;refine hK _ ?_;clear hK K)
    iterate 9 ((with_reducible refine wpQuiet_skip (fun K hK=>?_) ?_);rotate_left;rfl;go_simp;refine hK _ ?_;clear hK K)
    iterate 2 ((with_reducible refine wpQuiet_go (fun K hK=>?_) ?_);rotate_left;rfl;go_simp;refine hK _ ?_;clear hK K)
    refine wpQuiet_nil ?_
    intro _ hw'
    obtain ⟨⟨dq,osq⟩,hw''⟩:=hw'
    subst hw''
    have BQ:=LH (HBX.out.trans ((below_regrown w5 dq osq).mono HBX.out.size))
    go_wp2_with fail
    go_roundw
    case rel=>exact ⟨1,by omega,by go_num,BQ.out⟩
    case measure=>simp [intOf]
   ·have d1:=(HBW.out.cell (p:=⟨g,o+3,none⟩) hgl).trans B0.out
    have d2:=(HBW.out.cell (p:=⟨g,o+3+1,none⟩) hgl).trans B1.out
    have d3:=(HBW.out.cell (p:=⟨g,o+3+2,none⟩) hgl).trans B2.out
    have z0:IntKind.i64.wrap 0=0:=by decide
    have e5:((a.pl:Int) == (b.pl:Int))=false:=by have:=HNE.out;rw [beq_eq_false_iff_ne];omega
    have d0a:=fun ob=>new_keep (o:=ob) d0
    go_wp2_with fail
    have hx:=heap_alloc_new wr (.cells #[.int .u16 (b.pl:Nat),.int .u8 (b.op:Nat),.int .u16 (b.n:Nat)] 58)
    have k0:=coh (i:=0) hx
    have k1:=coh (i:=1) hx
    have k2:=d0a (.cells #[.int .u16 (b.pl:Nat),.int .u8 (b.op:Nat),.int .u16 (b.n:Nat)] 58)
    have HBX:=LH (HBW.out.alloc HBW.out.size (.cells #[.int .u16 (b.pl:Nat),.int .u8 (b.op:Nat),.int .u16 (b.n:Nat)] 58))
    clear d0 d1 d2 d3 d0a
    generalize wr.alloc (.cells #[.int .u16 (b.pl:Nat),.int .u8 (b.op:Nat),.int .u16 (b.n:Nat)] 58)=w5 at *
    simp at k0 k1
    have j0:=cell_regrown k0
    have j1:=cell_regrown k1
    have j2:=cell_regrown k2
    have CB:=LH (fun d os=>Calls.regrown_of (HSB.out (Go.Sort.grow (redrawn w5 d) os)))
    clear k0 k1 k2 hx
    refine wp_region_quiet_below (by kernel_rfl) (by kernel_rfl) ?_
    iterate 5 (quiet_step (first | (go_at_call 14;exact CB.out _ _)))
    iterate 14 ((with_reducible refine wpQuiet_go (fun K hK=>?_) ?_);rotate_left;rfl;go_simp;refine hK _ ?_;clear hK K)
    refine wpQuiet_nil ?_
    intro _ hw'
    obtain ⟨⟨dq,osq⟩,hw''⟩:=hw'
    subst hw''
    have BQ:=LH (HBX.out.trans ((below_regrown w5 dq osq).mono HBX.out.size))
    go_wp2_with fail
    go_roundw
    case rel=>exact ⟨2,by omega,by go_num,BQ.out⟩
    case measure=>simp [intOf]
   ·clear d0
    have m1:=mk_ints
    have m2:=mk_rows
    go_wp2_with fail
    clear m1 m2
    have R0:=LH ((Below.heap_alloc (wr.alloc (.cells #[.int .i64 0,.int .i64 0] 3)) (.cells #[.slice none 0 0,.slice none 0 0] 24) wr.heap.size (by simp)).trans (heap_alloc_new wr _))
    have r1:=heap_alloc_new (wr.alloc (.cells #[.int .i64 0,.int .i64 0] 3)) (.cells #[.slice none 0 0,.slice none 0 0] 24)
    rw [World.size_alloc] at r1
    have R1:=LH r1
    have B5:=LH ((HBW.out.alloc hsz (.cells #[.int .i64 0,.int .i64 0] 3)).alloc (by simp;omega) (.cells #[.slice none 0 0,.slice none 0 0] 24))
    generalize (wr.alloc (.cells #[.int .i64 0,.int .i64 0] 3)).alloc (.cells #[.slice none 0 0,.slice none 0 0] 24)=w5 at *
    have hz5:wr.heap.size+1<w5.heap.size:=loh R1.out
    clear r1 HBW
    generalize wr.heap.size=go at *
    refine wp_loop_rounds 3 ?_
    rw [rounds_succ]
    go_wp2_with fail
    refine (HNA.out _ B5.out).mono ?_
    rintro e w6 ⟨ta,tc,rfl,hown,hb6⟩
    obtain ⟨gt,tc',e1,_,hgt,hgt2,ct,_⟩:=own1_get hown
    injection e1 with e1 _ _
    injection e1 with e1
    subst e1
    have B6:=LH (bthen B5.out hb6)
    have R06:=LH ((hb6.block go (by omega)).trans R0.out)
    have R16:=LH ((hb6.block (go+1) hz5).trans R1.out)
    have hz6:w5.heap.size<=w6.heap.size:=hb6.size
    have k1:=coh (i:=1) R16.out
    have k1f:=foh (i:=1) R16.out
    simp at k1 k1f
    have k1a:=fun ob=>new_keep (o:=ob) k1
    clear hown hb6 R0 R1 HNA B5
    go_wp2_with fail
    refine wp_loop_rounds 2 ?_
    rw [rounds_succ]
    go_wp2_with (at_builtin;refine wpList_append_at _ _ rfl rfl (.tmp 80) (.tmp 82) 24 rfl w6.heap.size 3 _ 1 8 Tryz.underlying24 info_intF rfl (by omega) (World.ownsRow_nil _ _ _ _) rfl [.int .i64 0] 3 rfl rfl (by intro u hu;simp at hu;subst hu;rfl) (by omega) (by omega) (Nat.le_refl _) ?_;intro v7 w7 hown7 hbel7;obtain ⟨A7,c7,rfl,_⟩:=own_slice hown7 (by decide);have R17:=LH ((hbel7.block (go+1) (by omega)).trans R16.out);have R07:=LH ((hbel7.block go (by omega)).trans R06.out);have B7:=LH (B6.out.trans (hbel7.mono B6.out.size));have hz7:=hbel7.size;have q1:=coh (i:=1) R17.out;have q1f:=foh (i:=1) R17.out;simp at q1 q1f;have H7:=LH hown7;clear hown7 hbel7 k1 k1f k1a R16 R06)
    have R18:=LH (heap_set (i:=1) (.slice A7 1 c7) R17.out)
    have R08:=LH ((set_block (g:=go+1) (i:=1) (u:=.slice A7 1 c7) (k:=go) (by omega)).trans R07.out)
    have H8:=LH (row_keep H7.out (fun k hk=>set_block (g:=go+1) (i:=1) (u:=.slice A7 1 c7) (k:=k) (by have:=(H7.out.lt k hk).1;omega)))
    have B8:=LH (B7.out.setCell (p:=⟨go+1,1,none⟩) (by show w.heap.size<=go+1;omega) (.slice A7 1 c7))
    have hz8:w7.heap.size<=(w7.setCell ⟨go+1,1,none⟩ (.slice A7 1 c7)).heap.size:=by simp
    generalize w7.setCell ⟨go+1,1,none⟩ (.slice A7 1 c7)=w8 at *
    have HA8:Hid (∀ k,(Value.slice A7 1 c7).ownBlock=some k->k<w8.heap.size):=LH (fun k hk=>(H8.out.lt k hk).2)
    simp at R18
    clear H7 R07 R17 B7 q1 q1f ct
    rw [rounds_succ]
    go_wp2_with (at_builtin;refine wpList_append_at _ _ rfl rfl (.tmp 86) (.tmp 88) 24 rfl w8.heap.size 3 _ 1 8 Tryz.underlying24 info_intF rfl (by omega) (World.ownsRow_nil _ _ _ _) rfl [.int .i64 0] 3 rfl rfl (by intro u hu;simp at hu;subst hu;rfl) (by omega) (by omega) (Nat.le_refl _) ?_;intro v9 w9 hown9 hbel9;obtain ⟨A9,c9,rfl,_⟩:=own_slice hown9 (by decide);have R19:=LH ((hbel9.block (go+1) (by omega)).trans R18.out);have R09:=LH ((hbel9.block go (by omega)).trans R08.out);have B9:=LH (B8.out.trans (hbel9.mono B8.out.size));have HW9:=LH hown9;have HA9:=LH (row_keep H8.out (fun k hk=>hbel9.block k (H8.out.lt k hk).2));have hz9:=hbel9.size;clear hown9 hbel9 R18 R08 B8 H8)
    rw [rounds_succ]
    go_wp2_with fail
    refine (HNB.out _ B9.out).mono ?_
    rintro e wx ⟨rfl,hbx⟩
    have R1x:=LH ((hbx.block (go+1) (by omega)).trans R19.out)
    have R0x:=LH ((hbx.block go (by omega)).trans R09.out)
    have Bx:=LH (bthen B9.out hbx)
    have HWx:=LH (row_keep HW9.out (fun k hk=>hbx.block k (HW9.out.lt k hk).2))
    have HAx:=LH (row_keep HA9.out (fun k hk=>hbx.block k (HA9.out.lt k hk).2))
    have hzx:=hbx.size
    have q1:=coh (i:=1) R0x.out
    have q1f:=foh (i:=1) R0x.out
    simp at q1 q1f
    clear hbx R19 R09 HW9 HA9 B9 HNB
    go_wp2_with fail
    have R0y:=LH (heap_set (i:=1) (.int .i64 31) R0x.out)
    have R1y:=LH ((set_block (g:=go) (i:=1) (u:=.int .i64 31) (k:=go+1) (by omega)).trans R1x.out)
    have HWy:=LH (row_keep HWx.out (fun k hk=>set_block (g:=go) (i:=1) (u:=.int .i64 31) (k:=k) (by have:=(HWx.out.lt k hk).1;omega)))
    have HAy:=LH (row_keep HAx.out (fun k hk=>set_block (g:=go) (i:=1) (u:=.int .i64 31) (k:=k) (by have:=(HAx.out.lt k hk).1;omega)))
    have By:=LH (Bx.out.setCell (p:=⟨go,1,none⟩) hsz (.int .i64 31))
    have hzy:wx.heap.size<=(wx.setCell ⟨go,1,none⟩ (.int .i64 31)).heap.size:=by simp
    generalize wx.setCell ⟨go,1,none⟩ (.int .i64 31)=wy at *
    simp at R0y
    clear R0x R1x HWx HAx Bx q1 q1f
    refine wp_loop_rounds 1 ?_
    rw [rounds_succ]
    go_wp2_with (at_builtin;refine wpList_append_at _ _ rfl rfl (.tmp 86) (.tmp 88) 24 rfl w8.heap.size 3 _ 1 8 Tryz.underlying24 info_intF rfl (by omega) HWy.out rfl [.int .i64 1] 3 rfl rfl (by intro u hu;simp at hu;subst hu;rfl) (by omega) (by omega) (by omega) ?_;intro v2 w2 hown2 hbel2)
    rw [rounds_succ]
    obtain ⟨A2,c2,rfl,hc2,_,hr2⟩:=own_slice hown2 (by decide)
    obtain ⟨gw,rfl,hgw8,hgw2,_,hcw⟩:=hr2 (by decide)
    have d1:=hcw 1 (.int .i64 1) rfl
    have R12:=LH ((hbel2.block (go+1) (by omega)).trans R1y.out)
    have R02:=LH ((hbel2.block go (by omega)).trans R0y.out)
    have HA2:=LH (row_keep HAy.out (fun k hk=>hbel2.block k (HA8.out k hk)))
    have B2x:=LH (By.out.trans (hbel2.mono (by omega)))
    have HW2:=LH hown2
    clear hown2 hbel2 hr2 hcw R1y R0y HAy HWy By
    go_wp2_with fail
    go_step3
    go_wp2_with fail
    have y1:=(B2x.out.cell (p:=⟨g,o+3+1,none⟩) hgl).trans B1.out
    have y3:=coh (i:=1) R02.out
    simp at y3
    have z1:=cell_regrown y1
    have z3:=cell_regrown y3
    have CU:=LH (fun d os=>Calls.regrown_of (HUB.out (Go.Sort.grow (redrawn w2 d) os)))
    have CT:=LH (fun d os=>Calls.regrown_of (HTB.out (Go.Sort.grow (redrawn w2 d) os)))
    have f1:bits .andNot .i64 31 0=31:=by decide
    have f2:bits .or .i64 0 31=31:=by decide
    clear y1 y3 d1
    refine wp_region_quiet_below (by kernel_rfl) (by kernel_rfl) ?_
    repeat (quiet_step (first | (go_at_call 42;exact CU.out _ _) | (go_at_call 43;exact CT.out _ _)))
    refine wpQuiet_nil ?_
    intro _ hw'
    obtain ⟨⟨dq,osq⟩,hw''⟩:=hw'
    subst hw''
    have BQ:=LH (below_regrown w2 dq osq)
    have R13:=LH ((BQ.out.block _ (loh R12.out)).trans R12.out)
    have R03:=LH ((BQ.out.block _ (loh R02.out)).trans R02.out)
    have HA3:=LH (row_keep HA2.out (fun k hk=>BQ.out.block k (HA2.out.lt k hk).2))
    have HW3:=LH (row_keep HW2.out (fun k hk=>BQ.out.block k (HW2.out.lt k hk).2))
    have B3x:=LH (bthen B2x.out BQ.out)
    have hgw3:gw<(Go.Sort.grow (redrawn w2 dq) osq).heap.size:=Nat.lt_of_lt_of_le hgw2 BQ.out.size
    clear R12 R02 HA2 HW2 BQ CU CT z1 z3 B2x
    generalize Go.Sort.grow (redrawn w2 dq) osq=w3 at *
    obtain ⟨A7',c7',e7,_,_,hr7⟩:=own_slice HA3.out (by decide)
    injection e7 with e7 _ e7'
    subst e7 e7'
    obtain ⟨g7,rfl,hg71,hg72,_,hc7⟩:=hr7 (by decide)
    have x0:=hc7 0 (.int .i64 0) rfl
    have y1:=coh (i:=1) R13.out
    have y0:=coh (i:=0) R03.out
    have y0f:=foh (i:=0) R03.out
    simp at y1 y0 y0f
    clear hr7 hc7
    go_wp2_with fail
    refine wp_loop_rounds 2 ?_
    rw [rounds_succ]
    go_wp2_with fail
    go_quiet (fail)
    go_upto_region 34 with (fail)
    have R04:=LH (heap_set (w:=w3.drewN nq) (i:=0) (.int .i64 31) R03.out)
    have R14:=LH ((set_block (w:=w3.drewN nq) (g:=go) (i:=0) (u:=.int .i64 31) (k:=go+1) (by omega)).trans R13.out)
    have HW4:=LH (row_keep (w:=w3) (w':=(w3.drewN nq).setCell ⟨go,0,none⟩ (.int .i64 31)) (own_pre HW3.out) (fun k hk=>set_block (w:=w3.drewN nq) (g:=go) (i:=0) (u:=.int .i64 31) (k:=k) (by have:=(HW3.out.lt k hk).1;omega)))
    have B4x:=LH ((below_dn B3x.out nq).setCell (p:=⟨go,0,none⟩) hsz (.int .i64 31))
    have hz4:w3.heap.size<=((w3.drewN nq).setCell ⟨go,0,none⟩ (.int .i64 31)).heap.size:=by simp
    generalize (w3.drewN nq).setCell ⟨go,0,none⟩ (.int .i64 31)=w4 at *
    simp at R04
    clear R03 R13 HW3 HA3 B3x x0 y1 y0 y0f
    go_wp2_with (at_builtin;refine wpList_append_at _ _ rfl rfl (.tmp 150) (.tmp 152) 24 rfl w8.heap.size 3 _ 1 8 Tryz.underlying24 info_intF rfl (by omega) HW4.out rfl [.int .i64 0] 3 rfl rfl (by intro u hu;simp at hu;subst hu;rfl) (by omega) (by omega) (by omega) ?_;intro v10 w10 hown10 hbel10)
    obtain ⟨A10,c10,rfl,hc10,_,hr10⟩:=own_slice hown10 (by decide)
    obtain ⟨gw',rfl,_,hgw10,_,hcw⟩:=hr10 (by decide)
    have J1:=LH ((hbel10.block (go+1) (by omega)).trans R14.out)
    have J0:=LH ((hbel10.block go (by omega)).trans R04.out)
    have BJ:=LH (B4x.out.trans (hbel10.mono (by omega)))
    have d0:=LH (hcw 0 (.int .i64 0) rfl)
    have d1:=LH (hcw 1 (.int .i64 0) rfl)
    have hmx:=hown10
    clear hr10 hcw hbel10 hown10 R04 R14 HW4 B4x
    rw [rounds_succ]
    go_wp2_with fail
    go_step3
    refine ⟨rfl,LiveJ.mk go gw' 2 c10 _ rfl (Nat.le_refl _) hc10 (fun j hj=>?_) J0.out J1.out hsz BJ.out⟩
    obtain rfl | rfl:j=0∨j=1:=by omega
    ·exact d0.out
    ·exact d1.out
 case pass=>
  rintro a' w' ⟨go,gw,n,cw,x1,u,rfl,hn2,hcw,hcell,h0,h1,hgo,hbw⟩
  unfold liveF
  have H0:=LH h0
  have H1:=LH h1
  have HB:=LH hbw
  have hn3:n=0 ∨ ∃ m,n=m+1/\m<=1:=by
   cases n with
   | zero=>exact .inl rfl
   | succ m=>exact .inr ⟨m,rfl,by omega⟩
  rcases hn3 with rfl | ⟨m,rfl,hm⟩
  ·have y0:=coh (i:=0) h0
   have y1:=coh (i:=1) h0
   simp at y0 y1
   clear h0 h1 hcell hbw hn2 hcw HIS HNA HNB HUA HTA HUB HTB
   go_wp2_with fail
   simp only [Exit.jump]
   go_ret2
   exact ⟨go,2,rfl,y0,y1,hgo,loh H0.out,HB.out⟩
  ·have d0:=hcell m (by omega)
   have HC:=LH (fun j (hj:j<m)=>hcell j (by omega))
   have y1:=(hbw.cell (p:=⟨g,o+1,none⟩) hgl).trans A1.out
   have y3:=coh (i:=0) h0
   have y4:=coh (i:=0) h1
   simp at y3 y4
   have z1:=cell_regrown y1
   have z3:=cell_regrown y3
   have CU:=LH (fun d os=>Calls.regrown_of (HUA.out (Go.Sort.grow (redrawn w' d) os)))
   have CT:=LH (fun d os=>Calls.regrown_of (HTA.out (Go.Sort.grow (redrawn w' d) os)))
   have f1:bits .andNot .i64 31 0=31:=by decide
   have f2:bits .or .i64 0 31=31:=by decide
   have e1:(((m+1:Nat):Int) - 1)=(m:Int):=by omega
   have e2:IntKind.i64.wrap (((m+1:Nat):Int) - 1)=(m:Int):=by rw [IntWalk.i64_in _ (by omega)];omega
   have e3:(0:Int)<((m+1:Nat):Int):=by omega
   clear y1 y3 h0 h1 hcell hbw hn2 HIS HNA HNB HUB HTB
   go_wp2_with fail
   refine wp_region_quiet_below (by kernel_rfl) (by kernel_rfl) ?_
   repeat (quiet_step (first | (go_at_call 42;exact CU.out _ _) | (go_at_call 43;exact CT.out _ _)))
   refine wpQuiet_nil ?_
   intro _ hw'
   obtain ⟨⟨dq,osq⟩,hw''⟩:=hw'
   subst hw''
   have BQ:=LH (below_regrown w' dq osq)
   have R1:=LH ((BQ.out.block _ (loh H1.out)).trans H1.out)
   have R0:=LH ((BQ.out.block _ (loh H0.out)).trans H0.out)
   have B3:=LH (bthen HB.out BQ.out)
   have HD:=LH (fun j (hj:j<m)=>(BQ.out.cell (block_lt_of_cell (HC.out j hj))).trans (HC.out j hj))
   clear BQ CU CT z1 z3 HB H0 H1 HC d0 e1 e2 e3 y4
   generalize Go.Sort.grow (redrawn w' dq) osq=w3 at *
   have y4:=coh (i:=0) R1.out
   simp at y4
   go_wp2_with fail
   refine wp_loop_rounds 1 ?_
   rw [rounds_succ]
   go_wp2_with fail
   go_step3
   refine ⟨rfl,LiveJ.mk go gw m cw _ rfl (by omega) (by omega) (fun j hj=>HD.out j hj) R0.out R1.out hgo B3.out,?_⟩
   show m<m+1
   omega
end Go.Proofs.YtbdnbfacalfciaaGreatDoor
