/- Vo. -/
import Derived.Test.YtagplldaooipmaaGreatDoorVm
import Derived.Test.YtagplldaooipmaaGreatDoorVn
import Derived.Test.YtagplldaooipmaaGreatDoorVb
import Derived.Test.YtagplldaooipmaaGreatDoorWt
import Derived.Test.YtagplldaooipmaaGreatDoorUg
import Derived.Test.YtagplldaooipmaaGreatDoorVd
namespace Go.Proofs.YtagplldaooipmaaGreatDoor
open Go.RowKit
theorem hit_head (hb:List Nat) (ht:Nat) (b:List UInt8) (h2:2 ≤ b.length) (hl:hb.length ≤ 2) (h:isHead hb b):hitB (hb,ht) b (byteN b 1)=true:=by
 obtain ⟨h0,hq⟩:=h
 unfold hitB
 simp only [Nat.min_eq_left (show hb.length ≤ b.length by omega)]
 rw [show (hb.map UInt8.ofNat).take hb.length=hb.map UInt8.ofNat by rw [← List.length_map (f:=UInt8.ofNat),List.take_length],decide_eq_true hq]
 by_cases h22:hb.length=2
 ·rw [second_same hb b h22 hq];simp [h22]
 ·simp [h22,h0]
theorem miss_head (hb:List Nat) (ht:Nat) (b:List UInt8) (h2:2 ≤ b.length) (hl:hb.length ≤ 2) (h:¬ isHead hb b):hitB (hb,ht) b (byteN b 1)=false:=by
 unfold hitB
 simp only [Nat.min_eq_left (show hb.length ≤ b.length by omega)]
 rw [show (hb.map UInt8.ofNat).take hb.length=hb.map UInt8.ofNat by rw [← List.length_map (f:=UInt8.ofNat),List.take_length]]
 by_cases h0:hb.length=0
 ·simp [h0]
 ·rw [decide_eq_false (fun hq=>h ⟨h0,hq⟩)];simp
theorem read86_any (b:List UInt8) (v:Value) (w:World) (hr:RdB w w.heap.size v b) (hl:b.length ≤ 1000000):Calls Tryz.prog 61 #[v] w (ReadP w (read86 b)):=by
 unfold read86
 by_cases h0:b = []
 ·rw [if_pos h0]
  subst h0
  obtain ⟨A,c,rfl,hc⟩:=hr.form
  go_enter Tryz.func61, Tryz.ntmps61
  go_wp2_with fail
  exact bodyPost_ret (v:=.tuple #[.agg #[.int .i64 0,.int .i64 0,.int .i64 0,.int .u16 0],.int .i64 0,.int .i64 2]) (by simp [results,Tryz.results61,go_sem]) rfl ⟨rfl,(Below.refl _ _).alloc (Nat.le_refl _) _⟩
 ·rw [if_neg h0]
  have hp:=List.length_pos_iff.2 h0
  unfold seconds86
  by_cases h1:1 < b.length
  ·rw [if_pos h1]
   have e:((List.findSome? (try86 b) [byteN b 1]).getD ((0,0,0,0),0,12))=(try86 b (byteN b 1)).getD ((0,0,0,0),0,12):=by
    rw [List.findSome?_cons]
    cases try86 b (byteN b 1) <;> rfl
   rw [e]
   clear e
   have hgl:=guess_le (byteN b 0) (byteN b 1) (byteN_lt b 0)
   unfold try86 tryH
   generalize hG:guess86 (byteN b 0) (byteN b 1)=G at *
   obtain ⟨op,d,s⟩:=G
   simp only at hgl ⊢
   have HL:=heads_len op d s
   generalize hH:heads86 op d s=H at *
   obtain ⟨hb,ht⟩:=H
   simp only at HL
   by_cases hn:isHead hb b
   ·rw [hit_head hb ht b h1 HL.1 hn,if_neg (by simp)]
    by_cases hs:b.length < size86 (hb,ht)
    ·rw [if_pos hs]
     exact read86_short b v w hr hl h1 op d s hG hb ht hH hn hs
    ·rw [if_neg hs]
     have hs2:size86 (hb,ht) ≤ b.length:=by omega
     have ht4:ht=0 ∨ ht=1 ∨ ht=2 ∨ ht=3:=by omega
     rcases ht4 with rfl | rfl | rfl | rfl
     ·exact read86_hit0 b v w hr hl h1 op d s hG hb hH hn hs2
     ·exact read86_hit1 b v w hr hl h1 op d s hG hb hH hn hs2
     ·exact read86_hit2 b v w hr hl h1 op d s hG hb hH hn hs2
     ·exact read86_hit3 b v w hr hl h1 op d s hG hb hH hn hs2
   ·rw [miss_head hb ht b h1 HL.1 hn,if_pos rfl]
    exact read86_miss b v w hr hl h1 op d s hG hb ht hH hn
  ·rw [if_neg h1]
   exact read86_one b v w hr (by omega)
end Go.Proofs.YtagplldaooipmaaGreatDoor
/- disasm: first86. -/
namespace Go.Proofs.YtagplldaooipmaaGreatDoor
open Go.RowKit
set_option maxHeartbeats 4000000 in
theorem first86_bad (pl:Nat) (b:List UInt8) (v:Value) (w:World) (hr:RdB w w.heap.size v b) (hl:b.length ≤ 1000000) (h0:b ≠ []) (op d s n size kd:Nat) (hrd:read86 b=((op,d,s,n),size,kd)) (hk:kd ≠ 0) :
  Calls Tryz.prog 35 #[.int .i64 (pl:Int),v] w (StR w (dbD (byteN b 0)).1 1 (-1)):=by
 have HR:=Lib.hid (fun W (hW:Below w.heap.size w W)=>read86_any b v W ((hr.below hW).more hW.size) hl)
 rw [hrd] at HR
 unfold ReadP at HR
 simp only at HR
 have HD:=Lib.hid (fun W=>ddb_any (byteN b 0) (byteN_lt b 0) W)
 have hk':((kd:Int) != 0)=true:=by rw [bne_iff_ne];omega
 obtain ⟨A,c,rfl,hc⟩:=hr.form
 have hlen:0 < b.length:=List.length_pos_iff.2 h0
 obtain ⟨g,o,rfl,hg,hcell⟩:=hr.get 0 hlen
 have c0:=hcell 0 hlen
 rw [Nat.add_zero] at c0
 generalize byteN b 0=x at *
 generalize b.length=bl at *
 clear hrd hr hc hl hk hcell h0
 go_enter Tryz.func35, Tryz.ntmps35
 go_wp2_with fail
 refine (HR.out _ ((Below.refl _ _).alloc (Nat.le_refl _) _)).mono ?_
 rintro e w1 ⟨rfl,hb1⟩
 have B1:=Lib.hid (bthen ((Below.refl _ _).alloc (Nat.le_refl _) _) hb1)
 have C1:=Lib.hid ((hb1.block w.heap.size (by simp)).trans (heap_alloc_new w _))
 have d0:=(hb1.cell (p:=⟨g,o,none⟩) (by simp;omega)).trans ((World.cell?_alloc_lt w (.cells #[.string ⟨#[]⟩,.bool false,.string ⟨#[]⟩,.slice none 0 0] 31) ⟨g,o,none⟩ hg).trans c0)
 have Z1:=Lib.hid (lt_of_heap C1.out)
 have hgz:g < w1.heap.size:=by have:=Z1.out;omega
 clear hb1 HR c0
 go_wp2_with fail
 refine (HD.out _).mono ?_
 rintro e w2 ⟨v,rfl,hown,hb2⟩
 obtain ⟨vA,vc,rfl,hvc,hvm,_⟩:=own_slice hown (by omega)
 have B2:=Lib.hid ((B1.out.alloc B1.out.size (.cells #[.int .i64 (op:Int),.int .i64 (d:Int),.int .i64 (s:Int),.int .u16 (n:Int)] 94)).trans (hb2.mono (by have:=B1.out.size;simp;omega)))
 have C2:=Lib.hid ((hb2.block w.heap.size (by simp;have:=Z1.out;omega)).trans ((Below.heap_alloc w1 _ w.heap.size Z1.out).trans C1.out))
 have O2:=Lib.hid hown
 have hz:w.heap.size < w2.heap.size:=lt_of_heap C2.out
 have hz1:w.heap.size < (w1.alloc (.cells #[.int .i64 (op:Int),.int .i64 (d:Int),.int .i64 (s:Int),.int .u16 (n:Int)] 94)).heap.size:=by simp;have:=Z1.out;omega
 obtain ⟨⟨k0,k1,k2,k3⟩,g0,g1,g2,g3⟩:=four C2.out
 clear hb2 hown HD C1 B1
 go_wp2_with fail
 refine bodyPost_ret (v:=.tuple #[.agg #[.string ⟨#[]⟩,.bool false,.string ⟨#[68,66]⟩,.slice vA (dbD x).1.args.length vc],.int .i64 1,.int .i64 (-1)]) (by simp [results,Tryz.results35,go_sem,k0,k1,k2,k3];exact ⟨rfl,rfl,rfl⟩) rfl ⟨_,rfl,?_,(((B2.out.setCell (by simp) _).setCell (by simp) _).setCell (by simp) _).setCell (by simp) _⟩
 exact own_more (own_set (own_set (own_set (own_set O2.out hz1) hz1) hz1) hz1) (Nat.le_of_lt hz1)
theorem index2_0 (a b:Value) (w:World):(Instr.index 99 (.agg #[a,b]) (.int .i64 0)).run Tryz.prog w=.ok a w:=by kernel_rfl
theorem index2_1 (a b:Value) (w:World):(Instr.index 99 (.agg #[a,b]) (.int .i64 1)).run Tryz.prog w=.ok b w:=by kernel_rfl
attribute [go_sem] index2_0 index2_1
def RowR (w w0:World) (T:Nat) (l:List Ar) (nm:List UInt8) (wr:World):Prop:=∃ v,wr.heap[T]? = some (.cells #[.string ⟨#[]⟩,.bool false,.string ⟨nm.toArray⟩,v] 31 (0,0))∧wr.ownsRow w0.heap.size 41 8 v l.length (rowA l)∧But w0.heap.size T w0 wr∧Below w.heap.size w wr
def accD (d s n k:Nat):List Ar:=if k=0 then [] else if k=1 then arg86D d n else arg86D d n ++ arg86D s n
theorem arg86_len (c n:Nat):(arg86D c n).length ≤ 1:=by unfold arg86D;repeat' (first | (simp;done) | split)
theorem accD_len (d s n k:Nat):(accD d s n k).length ≤ 2:=by
 have:=arg86_len d n
 have:=arg86_len s n
 unfold accD
 split
 ·simp
 ·split
  ·omega
  ·simp;omega
end Go.Proofs.YtagplldaooipmaaGreatDoor
/- disasm: first86, where nothing jumps. -/
namespace Go.Proofs.YtagplldaooipmaaGreatDoor
open Go.RowKit
set_option maxHeartbeats 16000000 in
set_option maxRecDepth 100000 in
theorem first86_n (pl:Nat) (b:List UInt8) (v:Value) (w:World) (hg:GWL w) (hr:RdB w w.heap.size v b) (hl:pl + b.length ≤ 1000000) (op d s n size n2:Nat) (hrd:read86 b=((op,d,s,n),size,0)) (ho:op ≤ 51) (hd:d ≤ 20) (hs:s ≤ 20) (hn:n ≤ 65535) (_hsz:size ≤ 65535) (hj:jumps86 op=false) (hn2:n2=n) :
 Calls Tryz.prog 35 #[.int .i64 (pl:Int),v] w (StR w ⟨[],false,nameL op,arg86D d n2 ++ arg86D s n2⟩ size (-1)):=by
 have HR:=Lib.hid (fun W (hW:Below w.heap.size w W)=>read86_any b v W ((hr.below hW).more hW.size) (by omega))
 subst hn2
 rw [hrd] at HR
 unfold ReadP at HR
 simp only at HR
 have HJ:=Lib.hid (fun W=>jumps86_any op d s n2 W)
 rw [hj] at HJ
 obtain ⟨A,c,rfl,hc⟩:=hr.form
 have hpl:pl ≤ 1000000:=by omega
 clear hrd hj hr hc hl
 go_enter Tryz.func35, Tryz.ntmps35
 go_wp2_with fail
 refine (HR.out _ ((Below.refl _ _).alloc (Nat.le_refl _) _)).mono ?_
 rintro e w1 ⟨rfl,hb1⟩
 have B1:=Lib.hid (bthen ((Below.refl _ _).alloc (Nat.le_refl _) _) hb1)
 have C1:=Lib.hid ((hb1.block w.heap.size (by simp)).trans (heap_alloc_new w _))
 have Z1:=Lib.hid (lt_of_heap C1.out)
 clear hb1 HR
 go_wp2_with fail
 refine (HJ.out _).mono ?_
 rintro e w2 ⟨rfl,hb2⟩
 clear HJ
 have B2:=Lib.hid (bthen (B1.out.alloc B1.out.size (.cells #[.int .i64 (op:Int),.int .i64 (d:Int),.int .i64 (s:Int),.int .u16 (n2:Int)] 94)) hb2)
 have C2:=Lib.hid ((hb2.block w.heap.size (by simp;have:=Z1.out;omega)).trans ((Below.heap_alloc w1 (.cells #[.int .i64 (op:Int),.int .i64 (d:Int),.int .i64 (s:Int),.int .u16 (n2:Int)] 94) w.heap.size Z1.out).trans C1.out))
 have D2:=Lib.hid ((hb2.block w1.heap.size (by simp)).trans (heap_alloc_new w1 (.cells #[.int .i64 (op:Int),.int .i64 (d:Int),.int .i64 (s:Int),.int .u16 (n2:Int)] 94)))
 have hK:w.heap.size < w1.heap.size:=Z1.out
 have hK2:w1.heap.size < w2.heap.size:=lt_of_heap D2.out
 clear hb2 B1 C1 Z1
 generalize w1.heap.size=K at *
 have i0:=cell_of_heap (i:=0) D2.out
 have i3:=cell_of_heap (i:=3) D2.out
 have j3:=frozen_of_heap (i:=3) D2.out
 simp at i0 i3 j3
 go_wp2_with fail
 have B7:=B2;have C7:=C2;have D7:=D2
 clear B2 C2 D2
 generalize hw7:w2=w7 at *
 clear hw7
 have HN:=Lib.hid (nameX_any op w7 (hg.below B7.out) (by omega) (by omega))
 refine HN.out.mono ?_
 rintro e w8 ⟨rfl,hb8⟩
 have B8:=Lib.hid (bthen B7.out hb8)
 have C8:=Lib.hid ((hb8.block w.heap.size (by omega)).trans C7.out)
 have D8:=Lib.hid ((hb8.block K (by omega)).trans D7.out)
 have hK8:K < w8.heap.size:=lt_of_heap D8.out
 clear hb8 HN B7 C7 D7 i0 i3 j3 hK2
 go_wp2_with fail
 have HO:=Lib.hid (fun W=>dstmt_any (nameL op) (.slice none 0 0) W ⟨_,_,_,rfl⟩)
 refine (HO.out _).mono ?_
 rintro e w9 ⟨rfl,hb9⟩
 clear HO
 have B9:=Lib.hid (bthen B8.out hb9)
 have C10:=Lib.hid ((Below.heap_alloc w9 (.cells #[.string ⟨#[]⟩,.bool false,.string ⟨(nameL op).toArray⟩,.slice none 0 0] 31) w.heap.size (by have:=hb9.size;omega)).trans ((hb9.block w.heap.size (by omega)).trans C8.out))
 have D10:=Lib.hid ((Below.heap_alloc w9 (.cells #[.string ⟨#[]⟩,.bool false,.string ⟨(nameL op).toArray⟩,.slice none 0 0] 31) K (by have:=hb9.size;omega)).trans ((hb9.block K (by omega)).trans D8.out))
 have T10:=Lib.hid (heap_alloc_new w9 (.cells #[.string ⟨#[]⟩,.bool false,.string ⟨(nameL op).toArray⟩,.slice none 0 0] 31))
 have B10:=Lib.hid (B9.out.alloc B9.out.size (.cells #[.string ⟨#[]⟩,.bool false,.string ⟨(nameL op).toArray⟩,.slice none 0 0] 31))
 have hT2:K < w9.heap.size:=by have:=hb9.size;omega
 have hT1:w.heap.size < w9.heap.size:=by omega
 have hT3:(w9.alloc (.cells #[.string ⟨#[]⟩,.bool false,.string ⟨(nameL op).toArray⟩,.slice none 0 0] 31)).heap.size=w9.heap.size + 1:=by simp
 have i1:=cell_of_heap (i:=1) D10.out
 have i2:=cell_of_heap (i:=2) D10.out
 simp at i1 i2
 clear hb9 B9 B8 C8 D8 hK8
 go_wp2_with fail
 generalize w9.alloc (.cells #[.string ⟨#[]⟩,.bool false,.string ⟨(nameL op).toArray⟩,.slice none 0 0] 31)=w10 at *
 generalize w9.heap.size=T at *
 generalize hnm:nameL op=nm at *
 have HNM:=Lib.hid hnm
 clear hnm i1 i2
 go_loopw [51] (fun i wr=>∃ k:Nat,k ≤ 2∧i=.int .i64 k∧RowR w w10 T (accD d s n2 k) nm wr) (fun i _=>2 - (intOf i).toNat)
 case atStart=>exact ⟨0,Nat.zero_le _,rfl,_,T10.out,World.ownsRow_nil _ _ _ _,But.refl _ _ _,B10.out⟩
 case round=>
  obtain ⟨k,hk,rfl,v,hCT,hown,hbut,hbw⟩:=hrel
  obtain ⟨vA,vc,rfl,hvc,hvm,_⟩:=own_slice hown (by omega)
  have z1:T < wr.heap.size:=lt_of_heap hCT
  have HT:=Lib.hid hCT
  have HOW:=Lib.hid hown
  have HBU:=Lib.hid hbut
  have HBW:=Lib.hid hbw
  have hsw:=hbut.1
  clear hown hbut hbw hvm
  have hk3:k=0 ∨ k=1 ∨ k=2:=by omega
  rcases hk3 with rfl | rfl | rfl
  ·by_cases hz:d=0
   ·
    have h1:arg86D d n2 = []:=by unfold arg86D;rw [if_pos hz]
    have e1:((d:Int) == 0)=true:=by rw [beq_iff_eq];omega
    clear hz
    go_wp2_with fail
    go_roundw
    case rel=>exact ⟨1,by omega,by go_num,by rw [show accD d s n2 1=accD d s n2 0 from by simp [accD,h1]];exact ⟨_,HT.out,HOW.out,HBU.out,HBW.out⟩⟩
    case measure=>simp [intOf]
   ·by_cases h19:d=19
    ·have hz:=h19
     have h1:arg86D d n2 = [memA n2]:=by unfold arg86D;rw [if_neg (by omega),if_pos hz]
     have e1:((d:Int) == 0)=false:=by rw [beq_eq_false_iff_ne];omega
     have e2:((d:Int) == 19)=true:=by rw [beq_iff_eq];omega
     have HROW:Hid (rowA (accD d s n2 1)=rowA (accD d s n2 0) ++ arCells (memA n2) nilV):=Lib.hid (by rw [show accD d s n2 1=accD d s n2 0 ++ [memA n2] from by simp [accD,h1],rowA_snoc])
     clear hz h19
     have hlen0:=accD_len d s n2 0
     have HLEN:Hid ((accD d s n2 1).length=(accD d s n2 0).length + 1):=Lib.hid (by simp [accD,h1])
     have HOP:=Lib.hid (fun W=>doperand_any smn1 n2 W)
     rw [show operandD smn1 n2=memA n2 from rfl] at HOP
     skip
     have cT:=cell_of_heap (i:=3) hCT
     have fT:=frozen_of_heap (i:=3) hCT
     have cK:=cell_of_heap (i:=3) ((HBU.out.2 K (by omega) (by omega)).trans D10.out)
     simp at cT fT cK
     clear h1 hCT
     generalize (memA n2:Ar)=x at *
     go_wp2_with fail
     go_region_law (first | (go_simp;go_at_call 15;refine (HOP.out _).mono ?_;rintro e w2 ⟨rfl,hbU⟩;have q1:=(hbU.cell (p:=⟨T,3,none⟩) z1).trans cT;have q2:=(hbU.cell (p:=⟨K,3,none⟩) (by show K < wr.heap.size;omega)).trans cK;have q5:T < w2.heap.size:=(by have:=hbU.size;simp at this;omega);have q6:K < w2.heap.size:=(by have:=hbU.size;simp at this;omega);have hown2:=own_below HOW.out.drew hbU) | (refine step_append_at _ (by rfl) _ _ _ (by rfl) w10.heap.size 41 _ 8 104 Tryz.underlying29 info_ar rfl (by decide) (hown2.alloc _) (by rfl) ⟨w2.heap.size,0,none⟩ (arCells x nilV) (by rfl) (by rfl) (cells_new w2 (arCells x nilV) _) (arCells_one _ _ rfl) (by omega) (by omega) (by simp;have:=hbU.size;simp at this;omega) ?_;intro v' w3 hown3 hb3 hgr3;obtain ⟨A9,c9,rfl,hc9,hm9,_⟩:=own_slice hown3 (by omega);have hT3':=(hb3.block T (by omega)).trans ((Below.heap_alloc w2 (.cells (arCells x nilV).toArray 41) T (by have:=hbU.size;simp at this;omega)).trans ((hbU.block T z1).trans HT.out));have q3:=cell_of_heap (i:=3) hT3';have f3:=frozen_of_heap (i:=3) hT3';simp at q3 f3))
     all_goals (
      have BB:=Lib.hid ((HBW.out.drew.trans (hbU.mono (by simp;omega))).alloc (by have:=hbU.size;simp at this;omega) (.cells (arCells x nilV).toArray 41) |>.trans (hb3.mono (by omega)))
      have BU3:=Lib.hid (((HBU.out.drew.bel (hbU.mono (by simp;omega))).bel ((Below.refl w2.heap.size w2).alloc (Nat.le_refl _) (.cells (arCells x nilV).toArray 41) |>.mono (by have:=hbU.size;simp at this;omega))).bel hb3)
      have O3:Hid (w3.ownsRow w10.heap.size 41 8 (.slice A9 ((accD d s n2 0).length + 1) c9) (accD d s n2 1).length (rowA (accD d s n2 1))):=Lib.hid (by rw [HROW.out,HLEN.out];exact hown3)
      have T3:=Lib.hid hT3'
      clear hT3' hown3 hb3 hgr3 hbU hown2 q1 q2 HROW HOW HBU HBW
      go_simp
      go_wp2_with fail
      go_roundw
      case rel=>exact ⟨1,by omega,by go_num,_,heap_set (i:=3) _ T3.out,own_set O3.out (by omega),BU3.out.set 3 _,BB.out.setCell (by show w.heap.size ≤ T;omega) _⟩
      case measure=>simp [intOf])
    ·by_cases h20:d=20
     ·have hz:=h20
      have h1:arg86D d n2 = [numA n2]:=by unfold arg86D;rw [if_neg (by omega),if_neg (by omega),if_pos hz]
      have e1:((d:Int) == 0)=false:=by rw [beq_eq_false_iff_ne];omega
      have e2:((d:Int) == 19)=false:=by rw [beq_eq_false_iff_ne];omega
      have e3:((d:Int) == 20)=true:=by rw [beq_iff_eq];omega
      have HROW:Hid (rowA (accD d s n2 1)=rowA (accD d s n2 0) ++ arCells (numA n2) nilV):=Lib.hid (by rw [show accD d s n2 1=accD d s n2 0 ++ [numA n2] from by simp [accD,h1],rowA_snoc])
      clear hz h20
      have hlen0:=accD_len d s n2 0
      have HLEN:Hid ((accD d s n2 1).length=(accD d s n2 0).length + 1):=Lib.hid (by simp [accD,h1])
      have HOP:=Lib.hid (fun W=>doperand_any sn1 n2 W)
      rw [show operandD sn1 n2=numA n2 from rfl] at HOP
      skip
      have cT:=cell_of_heap (i:=3) hCT
      have fT:=frozen_of_heap (i:=3) hCT
      have cK:=cell_of_heap (i:=3) ((HBU.out.2 K (by omega) (by omega)).trans D10.out)
      simp at cT fT cK
      clear h1 hCT
      generalize (numA n2:Ar)=x at *
      go_wp2_with fail
      go_region_law (first | (go_simp;go_at_call 15;refine (HOP.out _).mono ?_;rintro e w2 ⟨rfl,hbU⟩;have q1:=(hbU.cell (p:=⟨T,3,none⟩) z1).trans cT;have q2:=(hbU.cell (p:=⟨K,3,none⟩) (by show K < wr.heap.size;omega)).trans cK;have q5:T < w2.heap.size:=(by have:=hbU.size;simp at this;omega);have q6:K < w2.heap.size:=(by have:=hbU.size;simp at this;omega);have hown2:=own_below HOW.out.drew hbU) | (refine step_append_at _ (by rfl) _ _ _ (by rfl) w10.heap.size 41 _ 8 104 Tryz.underlying29 info_ar rfl (by decide) (hown2.alloc _) (by rfl) ⟨w2.heap.size,0,none⟩ (arCells x nilV) (by rfl) (by rfl) (cells_new w2 (arCells x nilV) _) (arCells_one _ _ rfl) (by omega) (by omega) (by simp;have:=hbU.size;simp at this;omega) ?_;intro v' w3 hown3 hb3 hgr3;obtain ⟨A9,c9,rfl,hc9,hm9,_⟩:=own_slice hown3 (by omega);have hT3':=(hb3.block T (by omega)).trans ((Below.heap_alloc w2 (.cells (arCells x nilV).toArray 41) T (by have:=hbU.size;simp at this;omega)).trans ((hbU.block T z1).trans HT.out));have q3:=cell_of_heap (i:=3) hT3';have f3:=frozen_of_heap (i:=3) hT3';simp at q3 f3))
      all_goals (
       have BB:=Lib.hid ((HBW.out.drew.trans (hbU.mono (by simp;omega))).alloc (by have:=hbU.size;simp at this;omega) (.cells (arCells x nilV).toArray 41) |>.trans (hb3.mono (by omega)))
       have BU3:=Lib.hid (((HBU.out.drew.bel (hbU.mono (by simp;omega))).bel ((Below.refl w2.heap.size w2).alloc (Nat.le_refl _) (.cells (arCells x nilV).toArray 41) |>.mono (by have:=hbU.size;simp at this;omega))).bel hb3)
       have O3:Hid (w3.ownsRow w10.heap.size 41 8 (.slice A9 ((accD d s n2 0).length + 1) c9) (accD d s n2 1).length (rowA (accD d s n2 1))):=Lib.hid (by rw [HROW.out,HLEN.out];exact hown3)
       have T3:=Lib.hid hT3'
       clear hT3' hown3 hb3 hgr3 hbU hown2 q1 q2 HROW HOW HBU HBW
       go_simp
       go_wp2_with fail
       go_roundw
       case rel=>exact ⟨1,by omega,by go_num,_,heap_set (i:=3) _ T3.out,own_set O3.out (by omega),BU3.out.set 3 _,BB.out.setCell (by show w.heap.size ≤ T;omega) _⟩
       case measure=>simp [intOf])
     ·
      have h1:arg86D d n2 = [operandD (argL d) 0]:=by unfold arg86D;rw [if_neg hz,if_neg h19,if_neg h20]
      have e1:((d:Int) == 0)=false:=by rw [beq_eq_false_iff_ne];omega
      have e2:((d:Int) == 19)=false:=by rw [beq_eq_false_iff_ne];omega
      have e3:((d:Int) == 20)=false:=by rw [beq_eq_false_iff_ne];omega
      have HROW:Hid (rowA (accD d s n2 1)=rowA (accD d s n2 0) ++ arCells (operandD (argL d) 0) nilV):=Lib.hid (by rw [show accD d s n2 1=accD d s n2 0 ++ [operandD (argL d) 0] from by simp [accD,h1],rowA_snoc])
      skip
      have hlen0:=accD_len d s n2 0
      have HLEN:Hid ((accD d s n2 1).length=(accD d s n2 0).length + 1):=Lib.hid (by simp [accD,h1])
      have HOP:=Lib.hid (fun W=>doperand_any (argL d) 0 W)
      have HAG:=Lib.hid (fun W (hW:Below wr.heap.size wr W)=>argX_any d W (hg.below (bthen HBW.out hW)) (by omega) (by omega))
      have cT:=cell_of_heap (i:=3) hCT
      have fT:=frozen_of_heap (i:=3) hCT
      have cK:=cell_of_heap (i:=3) ((HBU.out.2 K (by omega) (by omega)).trans D10.out)
      simp at cT fT cK
      clear h1 hCT
      generalize operandD (argL d) 0=x at *
      go_wp2_with fail
      go_region_law (first | (go_simp;go_at_call 65;refine (HAG.out _ ((Below.refl _ _).drew)).mono ?_;rintro e wa ⟨rfl,hbA⟩;have qa1:=(hbA.cell (p:=⟨T,3,none⟩) z1).trans cT;have zA:T < wa.heap.size:=(by have:=hbA.size;simp at this;omega)) | (go_simp;go_at_call 15;refine (HOP.out _).mono ?_;rintro e w2 ⟨rfl,hbV⟩;have hbU:=bthen hbA hbV;have q1:=(hbU.cell (p:=⟨T,3,none⟩) z1).trans cT;have q2:=(hbU.cell (p:=⟨K,3,none⟩) (by show K < wr.heap.size;omega)).trans cK;have q5:T < w2.heap.size:=(by have:=hbU.size;simp at this;omega);have q6:K < w2.heap.size:=(by have:=hbU.size;simp at this;omega);have hown2:=own_below HOW.out.drew hbU) | (refine step_append_at _ (by rfl) _ _ _ (by rfl) w10.heap.size 41 _ 8 104 Tryz.underlying29 info_ar rfl (by decide) (hown2.alloc _) (by rfl) ⟨w2.heap.size,0,none⟩ (arCells x nilV) (by rfl) (by rfl) (cells_new w2 (arCells x nilV) _) (arCells_one _ _ rfl) (by omega) (by omega) (by simp;have:=hbU.size;simp at this;omega) ?_;intro v' w3 hown3 hb3 hgr3;obtain ⟨A9,c9,rfl,hc9,hm9,_⟩:=own_slice hown3 (by omega);have hT3':=(hb3.block T (by omega)).trans ((Below.heap_alloc w2 (.cells (arCells x nilV).toArray 41) T (by have:=hbU.size;simp at this;omega)).trans ((hbU.block T z1).trans HT.out));have q3:=cell_of_heap (i:=3) hT3';have f3:=frozen_of_heap (i:=3) hT3';simp at q3 f3))
      all_goals (
       have BB:=Lib.hid ((HBW.out.drew.trans (hbU.mono (by simp;omega))).alloc (by have:=hbU.size;simp at this;omega) (.cells (arCells x nilV).toArray 41) |>.trans (hb3.mono (by omega)))
       have BU3:=Lib.hid (((HBU.out.drew.bel (hbU.mono (by simp;omega))).bel ((Below.refl w2.heap.size w2).alloc (Nat.le_refl _) (.cells (arCells x nilV).toArray 41) |>.mono (by have:=hbU.size;simp at this;omega))).bel hb3)
       have O3:Hid (w3.ownsRow w10.heap.size 41 8 (.slice A9 ((accD d s n2 0).length + 1) c9) (accD d s n2 1).length (rowA (accD d s n2 1))):=Lib.hid (by rw [HROW.out,HLEN.out];exact hown3)
       have T3:=Lib.hid hT3'
       clear hT3' hown3 hb3 hgr3 hbU hown2 q1 q2 HROW HOW HBU HBW hbA hbV qa1 HAG
       go_simp
       go_wp2_with fail
       go_roundw
       case rel=>exact ⟨1,by omega,by go_num,_,heap_set (i:=3) _ T3.out,own_set O3.out (by omega),BU3.out.set 3 _,BB.out.setCell (by show w.heap.size ≤ T;omega) _⟩
       case measure=>simp [intOf])
  ·by_cases hz:s=0
   ·
    have h1:arg86D s n2 = []:=by unfold arg86D;rw [if_pos hz]
    have e1:((s:Int) == 0)=true:=by rw [beq_iff_eq];omega
    clear hz
    go_wp2_with fail
    go_roundw
    case rel=>exact ⟨2,by omega,by go_num,by rw [show accD d s n2 2=accD d s n2 1 from by simp [accD,h1]];exact ⟨_,HT.out,HOW.out,HBU.out,HBW.out⟩⟩
    case measure=>simp [intOf]
   ·by_cases h19:s=19
    ·have hz:=h19
     have h1:arg86D s n2 = [memA n2]:=by unfold arg86D;rw [if_neg (by omega),if_pos hz]
     have e1:((s:Int) == 0)=false:=by rw [beq_eq_false_iff_ne];omega
     have e2:((s:Int) == 19)=true:=by rw [beq_iff_eq];omega
     have HROW:Hid (rowA (accD d s n2 2)=rowA (accD d s n2 1) ++ arCells (memA n2) nilV):=Lib.hid (by rw [show accD d s n2 2=accD d s n2 1 ++ [memA n2] from by simp [accD,h1],rowA_snoc])
     clear hz h19
     have hlen0:=accD_len d s n2 1
     have HLEN:Hid ((accD d s n2 2).length=(accD d s n2 1).length + 1):=Lib.hid (by simp [accD,h1])
     have HOP:=Lib.hid (fun W=>doperand_any smn1 n2 W)
     rw [show operandD smn1 n2=memA n2 from rfl] at HOP
     skip
     have cT:=cell_of_heap (i:=3) hCT
     have fT:=frozen_of_heap (i:=3) hCT
     have cK:=cell_of_heap (i:=3) ((HBU.out.2 K (by omega) (by omega)).trans D10.out)
     simp at cT fT cK
     clear h1 hCT
     generalize (memA n2:Ar)=x at *
     go_wp2_with fail
     go_region_law (first | (go_simp;go_at_call 15;refine (HOP.out _).mono ?_;rintro e w2 ⟨rfl,hbU⟩;have q1:=(hbU.cell (p:=⟨T,3,none⟩) z1).trans cT;have q2:=(hbU.cell (p:=⟨K,3,none⟩) (by show K < wr.heap.size;omega)).trans cK;have q5:T < w2.heap.size:=(by have:=hbU.size;simp at this;omega);have q6:K < w2.heap.size:=(by have:=hbU.size;simp at this;omega);have hown2:=own_below HOW.out.drew hbU) | (refine step_append_at _ (by rfl) _ _ _ (by rfl) w10.heap.size 41 _ 8 104 Tryz.underlying29 info_ar rfl (by decide) (hown2.alloc _) (by rfl) ⟨w2.heap.size,0,none⟩ (arCells x nilV) (by rfl) (by rfl) (cells_new w2 (arCells x nilV) _) (arCells_one _ _ rfl) (by omega) (by omega) (by simp;have:=hbU.size;simp at this;omega) ?_;intro v' w3 hown3 hb3 hgr3;obtain ⟨A9,c9,rfl,hc9,hm9,_⟩:=own_slice hown3 (by omega);have hT3':=(hb3.block T (by omega)).trans ((Below.heap_alloc w2 (.cells (arCells x nilV).toArray 41) T (by have:=hbU.size;simp at this;omega)).trans ((hbU.block T z1).trans HT.out));have q3:=cell_of_heap (i:=3) hT3';have f3:=frozen_of_heap (i:=3) hT3';simp at q3 f3))
     all_goals (
      have BB:=Lib.hid ((HBW.out.drew.trans (hbU.mono (by simp;omega))).alloc (by have:=hbU.size;simp at this;omega) (.cells (arCells x nilV).toArray 41) |>.trans (hb3.mono (by omega)))
      have BU3:=Lib.hid (((HBU.out.drew.bel (hbU.mono (by simp;omega))).bel ((Below.refl w2.heap.size w2).alloc (Nat.le_refl _) (.cells (arCells x nilV).toArray 41) |>.mono (by have:=hbU.size;simp at this;omega))).bel hb3)
      have O3:Hid (w3.ownsRow w10.heap.size 41 8 (.slice A9 ((accD d s n2 1).length + 1) c9) (accD d s n2 2).length (rowA (accD d s n2 2))):=Lib.hid (by rw [HROW.out,HLEN.out];exact hown3)
      have T3:=Lib.hid hT3'
      clear hT3' hown3 hb3 hgr3 hbU hown2 q1 q2 HROW HOW HBU HBW
      go_simp
      go_wp2_with fail
      go_roundw
      case rel=>exact ⟨2,by omega,by go_num,_,heap_set (i:=3) _ T3.out,own_set O3.out (by omega),BU3.out.set 3 _,BB.out.setCell (by show w.heap.size ≤ T;omega) _⟩
      case measure=>simp [intOf])
    ·by_cases h20:s=20
     ·have hz:=h20
      have h1:arg86D s n2 = [numA n2]:=by unfold arg86D;rw [if_neg (by omega),if_neg (by omega),if_pos hz]
      have e1:((s:Int) == 0)=false:=by rw [beq_eq_false_iff_ne];omega
      have e2:((s:Int) == 19)=false:=by rw [beq_eq_false_iff_ne];omega
      have e3:((s:Int) == 20)=true:=by rw [beq_iff_eq];omega
      have HROW:Hid (rowA (accD d s n2 2)=rowA (accD d s n2 1) ++ arCells (numA n2) nilV):=Lib.hid (by rw [show accD d s n2 2=accD d s n2 1 ++ [numA n2] from by simp [accD,h1],rowA_snoc])
      clear hz h20
      have hlen0:=accD_len d s n2 1
      have HLEN:Hid ((accD d s n2 2).length=(accD d s n2 1).length + 1):=Lib.hid (by simp [accD,h1])
      have HOP:=Lib.hid (fun W=>doperand_any sn1 n2 W)
      rw [show operandD sn1 n2=numA n2 from rfl] at HOP
      skip
      have cT:=cell_of_heap (i:=3) hCT
      have fT:=frozen_of_heap (i:=3) hCT
      have cK:=cell_of_heap (i:=3) ((HBU.out.2 K (by omega) (by omega)).trans D10.out)
      simp at cT fT cK
      clear h1 hCT
      generalize (numA n2:Ar)=x at *
      go_wp2_with fail
      go_region_law (first | (go_simp;go_at_call 15;refine (HOP.out _).mono ?_;rintro e w2 ⟨rfl,hbU⟩;have q1:=(hbU.cell (p:=⟨T,3,none⟩) z1).trans cT;have q2:=(hbU.cell (p:=⟨K,3,none⟩) (by show K < wr.heap.size;omega)).trans cK;have q5:T < w2.heap.size:=(by have:=hbU.size;simp at this;omega);have q6:K < w2.heap.size:=(by have:=hbU.size;simp at this;omega);have hown2:=own_below HOW.out.drew hbU) | (refine step_append_at _ (by rfl) _ _ _ (by rfl) w10.heap.size 41 _ 8 104 Tryz.underlying29 info_ar rfl (by decide) (hown2.alloc _) (by rfl) ⟨w2.heap.size,0,none⟩ (arCells x nilV) (by rfl) (by rfl) (cells_new w2 (arCells x nilV) _) (arCells_one _ _ rfl) (by omega) (by omega) (by simp;have:=hbU.size;simp at this;omega) ?_;intro v' w3 hown3 hb3 hgr3;obtain ⟨A9,c9,rfl,hc9,hm9,_⟩:=own_slice hown3 (by omega);have hT3':=(hb3.block T (by omega)).trans ((Below.heap_alloc w2 (.cells (arCells x nilV).toArray 41) T (by have:=hbU.size;simp at this;omega)).trans ((hbU.block T z1).trans HT.out));have q3:=cell_of_heap (i:=3) hT3';have f3:=frozen_of_heap (i:=3) hT3';simp at q3 f3))
      all_goals (
       have BB:=Lib.hid ((HBW.out.drew.trans (hbU.mono (by simp;omega))).alloc (by have:=hbU.size;simp at this;omega) (.cells (arCells x nilV).toArray 41) |>.trans (hb3.mono (by omega)))
       have BU3:=Lib.hid (((HBU.out.drew.bel (hbU.mono (by simp;omega))).bel ((Below.refl w2.heap.size w2).alloc (Nat.le_refl _) (.cells (arCells x nilV).toArray 41) |>.mono (by have:=hbU.size;simp at this;omega))).bel hb3)
       have O3:Hid (w3.ownsRow w10.heap.size 41 8 (.slice A9 ((accD d s n2 1).length + 1) c9) (accD d s n2 2).length (rowA (accD d s n2 2))):=Lib.hid (by rw [HROW.out,HLEN.out];exact hown3)
       have T3:=Lib.hid hT3'
       clear hT3' hown3 hb3 hgr3 hbU hown2 q1 q2 HROW HOW HBU HBW
       go_simp
       go_wp2_with fail
       go_roundw
       case rel=>exact ⟨2,by omega,by go_num,_,heap_set (i:=3) _ T3.out,own_set O3.out (by omega),BU3.out.set 3 _,BB.out.setCell (by show w.heap.size ≤ T;omega) _⟩
       case measure=>simp [intOf])
     ·
      have h1:arg86D s n2 = [operandD (argL s) 0]:=by unfold arg86D;rw [if_neg hz,if_neg h19,if_neg h20]
      have e1:((s:Int) == 0)=false:=by rw [beq_eq_false_iff_ne];omega
      have e2:((s:Int) == 19)=false:=by rw [beq_eq_false_iff_ne];omega
      have e3:((s:Int) == 20)=false:=by rw [beq_eq_false_iff_ne];omega
      have HROW:Hid (rowA (accD d s n2 2)=rowA (accD d s n2 1) ++ arCells (operandD (argL s) 0) nilV):=Lib.hid (by rw [show accD d s n2 2=accD d s n2 1 ++ [operandD (argL s) 0] from by simp [accD,h1],rowA_snoc])
      skip
      have hlen0:=accD_len d s n2 1
      have HLEN:Hid ((accD d s n2 2).length=(accD d s n2 1).length + 1):=Lib.hid (by simp [accD,h1])
      have HOP:=Lib.hid (fun W=>doperand_any (argL s) 0 W)
      have HAG:=Lib.hid (fun W (hW:Below wr.heap.size wr W)=>argX_any s W (hg.below (bthen HBW.out hW)) (by omega) (by omega))
      have cT:=cell_of_heap (i:=3) hCT
      have fT:=frozen_of_heap (i:=3) hCT
      have cK:=cell_of_heap (i:=3) ((HBU.out.2 K (by omega) (by omega)).trans D10.out)
      simp at cT fT cK
      clear h1 hCT
      generalize operandD (argL s) 0=x at *
      go_wp2_with fail
      go_region_law (first | (go_simp;go_at_call 65;refine (HAG.out _ ((Below.refl _ _).drew)).mono ?_;rintro e wa ⟨rfl,hbA⟩;have qa1:=(hbA.cell (p:=⟨T,3,none⟩) z1).trans cT;have zA:T < wa.heap.size:=(by have:=hbA.size;simp at this;omega)) | (go_simp;go_at_call 15;refine (HOP.out _).mono ?_;rintro e w2 ⟨rfl,hbV⟩;have hbU:=bthen hbA hbV;have q1:=(hbU.cell (p:=⟨T,3,none⟩) z1).trans cT;have q2:=(hbU.cell (p:=⟨K,3,none⟩) (by show K < wr.heap.size;omega)).trans cK;have q5:T < w2.heap.size:=(by have:=hbU.size;simp at this;omega);have q6:K < w2.heap.size:=(by have:=hbU.size;simp at this;omega);have hown2:=own_below HOW.out.drew hbU) | (refine step_append_at _ (by rfl) _ _ _ (by rfl) w10.heap.size 41 _ 8 104 Tryz.underlying29 info_ar rfl (by decide) (hown2.alloc _) (by rfl) ⟨w2.heap.size,0,none⟩ (arCells x nilV) (by rfl) (by rfl) (cells_new w2 (arCells x nilV) _) (arCells_one _ _ rfl) (by omega) (by omega) (by simp;have:=hbU.size;simp at this;omega) ?_;intro v' w3 hown3 hb3 hgr3;obtain ⟨A9,c9,rfl,hc9,hm9,_⟩:=own_slice hown3 (by omega);have hT3':=(hb3.block T (by omega)).trans ((Below.heap_alloc w2 (.cells (arCells x nilV).toArray 41) T (by have:=hbU.size;simp at this;omega)).trans ((hbU.block T z1).trans HT.out));have q3:=cell_of_heap (i:=3) hT3';have f3:=frozen_of_heap (i:=3) hT3';simp at q3 f3))
      all_goals (
       have BB:=Lib.hid ((HBW.out.drew.trans (hbU.mono (by simp;omega))).alloc (by have:=hbU.size;simp at this;omega) (.cells (arCells x nilV).toArray 41) |>.trans (hb3.mono (by omega)))
       have BU3:=Lib.hid (((HBU.out.drew.bel (hbU.mono (by simp;omega))).bel ((Below.refl w2.heap.size w2).alloc (Nat.le_refl _) (.cells (arCells x nilV).toArray 41) |>.mono (by have:=hbU.size;simp at this;omega))).bel hb3)
       have O3:Hid (w3.ownsRow w10.heap.size 41 8 (.slice A9 ((accD d s n2 1).length + 1) c9) (accD d s n2 2).length (rowA (accD d s n2 2))):=Lib.hid (by rw [HROW.out,HLEN.out];exact hown3)
       have T3:=Lib.hid hT3'
       clear hT3' hown3 hb3 hgr3 hbU hown2 q1 q2 HROW HOW HBU HBW hbA hbV qa1 HAG
       go_simp
       go_wp2_with fail
       go_roundw
       case rel=>exact ⟨2,by omega,by go_num,_,heap_set (i:=3) _ T3.out,own_set O3.out (by omega),BU3.out.set 3 _,BB.out.setCell (by show w.heap.size ≤ T;omega) _⟩
       case measure=>simp [intOf])
  ·
   have CR:=(HBU.out.2 w.heap.size (by omega) (by omega)).trans C10.out
   have k0:=cell_of_heap (i:=0) CR
   have f0:=frozen_of_heap (i:=0) CR
   have k1:=cell_of_heap (i:=1) CR
   have f1:=frozen_of_heap (i:=1) CR
   have k2:=cell_of_heap (i:=2) CR
   have f2:=frozen_of_heap (i:=2) CR
   have k3:=cell_of_heap (i:=3) CR
   have f3:=frozen_of_heap (i:=3) CR
   simp at k0 k1 k2 k3 f0 f1 f2 f3
   have t0:=cell_of_heap (i:=0) HT.out
   have g0:=frozen_of_heap (i:=0) HT.out
   have t1:=cell_of_heap (i:=1) HT.out
   have g1:=frozen_of_heap (i:=1) HT.out
   have t2:=cell_of_heap (i:=2) HT.out
   have g2:=frozen_of_heap (i:=2) HT.out
   have t3:=cell_of_heap (i:=3) HT.out
   have g3:=frozen_of_heap (i:=3) HT.out
   simp at t0 t1 t2 t3 g0 g1 g2 g3
   have O2:=Lib.hid HOW.out
   have BB:=Lib.hid HBW.out
   clear CR hCT HOW HBW HBU HT T10 D10 C10 B10
   go_wp2_with fail
   refine bodyPost_ret (v:=.tuple #[.agg #[.string ⟨#[]⟩,.bool false,.string ⟨nm.toArray⟩,.slice vA (accD d s n2 2).length vc],.int .i64 size,.int .i64 (-1)]) (by simp [results,Tryz.results35,go_sem,k0,k1,k2,k3]) rfl ⟨_,(by have h:=HNM.out;subst h;rfl),?_,?_⟩
   ·exact own_more (own_set (own_set (own_set (own_set O2.out (by omega)) (by omega)) (by omega)) (by omega)) (by omega)
   ·exact (((BB.out.setCell (Nat.le_refl _) _).setCell (Nat.le_refl _) _).setCell (Nat.le_refl _) _).setCell (Nat.le_refl _) _
end Go.Proofs.YtagplldaooipmaaGreatDoor
/- disasm: first86, where it jumps. -/
namespace Go.Proofs.YtagplldaooipmaaGreatDoor
open Go.RowKit
set_option maxHeartbeats 16000000 in
set_option maxRecDepth 100000 in
theorem first86_j (pl:Nat) (b:List UInt8) (v:Value) (w:World) (hg:GWL w) (hr:RdB w w.heap.size v b) (hl:pl + b.length ≤ 1000000) (op d s n size n2:Nat) (hrd:read86 b=((op,d,s,n),size,0)) (ho:op ≤ 51) (hd:d ≤ 20) (hs:s ≤ 20) (_hn:n ≤ 65535) (hsz:size ≤ 65535) (hj:jumps86 op=true) (hn2:n2=(n + pl + size) % 65536) :
 Calls Tryz.prog 35 #[.int .i64 (pl:Int),v] w (StR w ⟨[],false,nameL op,arg86D d n2 ++ arg86D s n2⟩ size n2):=by
 have HR:=Lib.hid (fun W (hW:Below w.heap.size w W)=>read86_any b v W ((hr.below hW).more hW.size) (by omega))
 rw [hrd] at HR
 unfold ReadP at HR
 simp only at HR
 have HJ:=Lib.hid (fun W=>jumps86_any op d s n W)
 rw [hj] at HJ
 obtain ⟨A,c,rfl,hc⟩:=hr.form
 have hpl:pl ≤ 1000000:=by omega
 have m1:IntKind.i64.wrap ((pl:Int) + (size:Int))=((pl + size:Nat):Int):=by rw [IntWalk.i64_in _ (by omega)];omega
 have HN2:=Lib.hid hn2
 have hn2b:n2 ≤ 65535:=by omega
 clear hrd hj hr hc hl hn2
 go_enter Tryz.func35, Tryz.ntmps35
 go_wp2_with fail
 refine (HR.out _ ((Below.refl _ _).alloc (Nat.le_refl _) _)).mono ?_
 rintro e w1 ⟨rfl,hb1⟩
 have B1:=Lib.hid (bthen ((Below.refl _ _).alloc (Nat.le_refl _) _) hb1)
 have C1:=Lib.hid ((hb1.block w.heap.size (by simp)).trans (heap_alloc_new w _))
 have Z1:=Lib.hid (lt_of_heap C1.out)
 clear hb1 HR
 go_wp2_with fail
 refine (HJ.out _).mono ?_
 rintro e w2 ⟨rfl,hb2⟩
 clear HJ
 have B2:=Lib.hid (bthen (B1.out.alloc B1.out.size (.cells #[.int .i64 (op:Int),.int .i64 (d:Int),.int .i64 (s:Int),.int .u16 (n:Int)] 94)) hb2)
 have C2:=Lib.hid ((hb2.block w.heap.size (by simp;have:=Z1.out;omega)).trans ((Below.heap_alloc w1 (.cells #[.int .i64 (op:Int),.int .i64 (d:Int),.int .i64 (s:Int),.int .u16 (n:Int)] 94) w.heap.size Z1.out).trans C1.out))
 have D2:=Lib.hid ((hb2.block w1.heap.size (by simp)).trans (heap_alloc_new w1 (.cells #[.int .i64 (op:Int),.int .i64 (d:Int),.int .i64 (s:Int),.int .u16 (n:Int)] 94)))
 have hK:w.heap.size < w1.heap.size:=Z1.out
 have hK2:w1.heap.size < w2.heap.size:=lt_of_heap D2.out
 clear hb2 B1 C1 Z1
 generalize w1.heap.size=K at *
 have i0:=cell_of_heap (i:=0) D2.out
 have i3:=cell_of_heap (i:=3) D2.out
 have j3:=frozen_of_heap (i:=3) D2.out
 simp at i0 i3 j3
 go_wp2_with fail
 have m2:IntKind.u16.wrap ((n:Int) + IntKind.u16.wrap ((pl:Int) + (size:Int)))=(n2:Int):=by rw [HN2.out];simp [IntKind.wrap,IntKind.bits,IntKind.signed];omega
 have m3:wrap64 (n2:Int)=(n2:Int):=IntWalk.wrap64_in _ (by omega)
 rw [m2,m3]
 have B7:=Lib.hid (B2.out.setCell (p:=⟨K,3,none⟩) (by show w.heap.size ≤ K;omega) (.int .u16 n2))
 have C7:=Lib.hid ((Below.heap_setCell w2 ⟨K,3,none⟩ (.int .u16 n2) w.heap.size (by simp;omega)).trans C2.out)
 have D7:Hid ((w2.setCell ⟨K,3,none⟩ (.int .u16 (n2:Int))).heap[K]? = some (.cells #[.int .i64 (op:Int),.int .i64 (d:Int),.int .i64 (s:Int),.int .u16 (n2:Int)] 94 (0,0))):=Lib.hid (heap_set (i:=3) (.int .u16 (n2:Int)) D2.out)
 clear B2 C2 D2 m1 m2 m3
 have hn:=hn2b
 have hK2:=lt_of_heap D7.out
 generalize hw7:w2.setCell ⟨K,3,none⟩ (.int .u16 (n2:Int))=w7 at *
 clear hw7
 have HN:=Lib.hid (nameX_any op w7 (hg.below B7.out) (by omega) (by omega))
 refine HN.out.mono ?_
 rintro e w8 ⟨rfl,hb8⟩
 have B8:=Lib.hid (bthen B7.out hb8)
 have C8:=Lib.hid ((hb8.block w.heap.size (by omega)).trans C7.out)
 have D8:=Lib.hid ((hb8.block K (by omega)).trans D7.out)
 have hK8:K < w8.heap.size:=lt_of_heap D8.out
 clear hb8 HN B7 C7 D7 i0 i3 j3 hK2
 go_wp2_with fail
 have HO:=Lib.hid (fun W=>dstmt_any (nameL op) (.slice none 0 0) W ⟨_,_,_,rfl⟩)
 refine (HO.out _).mono ?_
 rintro e w9 ⟨rfl,hb9⟩
 clear HO
 have B9:=Lib.hid (bthen B8.out hb9)
 have C10:=Lib.hid ((Below.heap_alloc w9 (.cells #[.string ⟨#[]⟩,.bool false,.string ⟨(nameL op).toArray⟩,.slice none 0 0] 31) w.heap.size (by have:=hb9.size;omega)).trans ((hb9.block w.heap.size (by omega)).trans C8.out))
 have D10:=Lib.hid ((Below.heap_alloc w9 (.cells #[.string ⟨#[]⟩,.bool false,.string ⟨(nameL op).toArray⟩,.slice none 0 0] 31) K (by have:=hb9.size;omega)).trans ((hb9.block K (by omega)).trans D8.out))
 have T10:=Lib.hid (heap_alloc_new w9 (.cells #[.string ⟨#[]⟩,.bool false,.string ⟨(nameL op).toArray⟩,.slice none 0 0] 31))
 have B10:=Lib.hid (B9.out.alloc B9.out.size (.cells #[.string ⟨#[]⟩,.bool false,.string ⟨(nameL op).toArray⟩,.slice none 0 0] 31))
 have hT2:K < w9.heap.size:=by have:=hb9.size;omega
 have hT1:w.heap.size < w9.heap.size:=by omega
 have hT3:(w9.alloc (.cells #[.string ⟨#[]⟩,.bool false,.string ⟨(nameL op).toArray⟩,.slice none 0 0] 31)).heap.size=w9.heap.size + 1:=by simp
 have i1:=cell_of_heap (i:=1) D10.out
 have i2:=cell_of_heap (i:=2) D10.out
 simp at i1 i2
 clear hb9 B9 B8 C8 D8 hK8
 go_wp2_with fail
 generalize w9.alloc (.cells #[.string ⟨#[]⟩,.bool false,.string ⟨(nameL op).toArray⟩,.slice none 0 0] 31)=w10 at *
 generalize w9.heap.size=T at *
 generalize hnm:nameL op=nm at *
 have HNM:=Lib.hid hnm
 clear hnm i1 i2
 go_loopw [51] (fun i wr=>∃ k:Nat,k ≤ 2∧i=.int .i64 k∧RowR w w10 T (accD d s n2 k) nm wr) (fun i _=>2 - (intOf i).toNat)
 case atStart=>exact ⟨0,Nat.zero_le _,rfl,_,T10.out,World.ownsRow_nil _ _ _ _,But.refl _ _ _,B10.out⟩
 case round=>
  obtain ⟨k,hk,rfl,v,hCT,hown,hbut,hbw⟩:=hrel
  obtain ⟨vA,vc,rfl,hvc,hvm,_⟩:=own_slice hown (by omega)
  have z1:T < wr.heap.size:=lt_of_heap hCT
  have HT:=Lib.hid hCT
  have HOW:=Lib.hid hown
  have HBU:=Lib.hid hbut
  have HBW:=Lib.hid hbw
  have hsw:=hbut.1
  clear hown hbut hbw hvm
  have hk3:k=0 ∨ k=1 ∨ k=2:=by omega
  rcases hk3 with rfl | rfl | rfl
  ·by_cases hz:d=0
   ·
    have h1:arg86D d n2 = []:=by unfold arg86D;rw [if_pos hz]
    have e1:((d:Int) == 0)=true:=by rw [beq_iff_eq];omega
    clear hz
    go_wp2_with fail
    go_roundw
    case rel=>exact ⟨1,by omega,by go_num,by rw [show accD d s n2 1=accD d s n2 0 from by simp [accD,h1]];exact ⟨_,HT.out,HOW.out,HBU.out,HBW.out⟩⟩
    case measure=>simp [intOf]
   ·by_cases h19:d=19
    ·have hz:=h19
     have h1:arg86D d n2 = [memA n2]:=by unfold arg86D;rw [if_neg (by omega),if_pos hz]
     have e1:((d:Int) == 0)=false:=by rw [beq_eq_false_iff_ne];omega
     have e2:((d:Int) == 19)=true:=by rw [beq_iff_eq];omega
     have HROW:Hid (rowA (accD d s n2 1)=rowA (accD d s n2 0) ++ arCells (memA n2) nilV):=Lib.hid (by rw [show accD d s n2 1=accD d s n2 0 ++ [memA n2] from by simp [accD,h1],rowA_snoc])
     clear hz h19
     have hlen0:=accD_len d s n2 0
     have HLEN:Hid ((accD d s n2 1).length=(accD d s n2 0).length + 1):=Lib.hid (by simp [accD,h1])
     have HOP:=Lib.hid (fun W=>doperand_any smn1 n2 W)
     rw [show operandD smn1 n2=memA n2 from rfl] at HOP
     skip
     have cT:=cell_of_heap (i:=3) hCT
     have fT:=frozen_of_heap (i:=3) hCT
     have cK:=cell_of_heap (i:=3) ((HBU.out.2 K (by omega) (by omega)).trans D10.out)
     simp at cT fT cK
     clear h1 hCT
     generalize (memA n2:Ar)=x at *
     go_wp2_with fail
     go_region_law (first | (go_simp;go_at_call 15;refine (HOP.out _).mono ?_;rintro e w2 ⟨rfl,hbU⟩;have q1:=(hbU.cell (p:=⟨T,3,none⟩) z1).trans cT;have q2:=(hbU.cell (p:=⟨K,3,none⟩) (by show K < wr.heap.size;omega)).trans cK;have q5:T < w2.heap.size:=(by have:=hbU.size;simp at this;omega);have q6:K < w2.heap.size:=(by have:=hbU.size;simp at this;omega);have hown2:=own_below HOW.out.drew hbU) | (refine step_append_at _ (by rfl) _ _ _ (by rfl) w10.heap.size 41 _ 8 104 Tryz.underlying29 info_ar rfl (by decide) (hown2.alloc _) (by rfl) ⟨w2.heap.size,0,none⟩ (arCells x nilV) (by rfl) (by rfl) (cells_new w2 (arCells x nilV) _) (arCells_one _ _ rfl) (by omega) (by omega) (by simp;have:=hbU.size;simp at this;omega) ?_;intro v' w3 hown3 hb3 hgr3;obtain ⟨A9,c9,rfl,hc9,hm9,_⟩:=own_slice hown3 (by omega);have hT3':=(hb3.block T (by omega)).trans ((Below.heap_alloc w2 (.cells (arCells x nilV).toArray 41) T (by have:=hbU.size;simp at this;omega)).trans ((hbU.block T z1).trans HT.out));have q3:=cell_of_heap (i:=3) hT3';have f3:=frozen_of_heap (i:=3) hT3';simp at q3 f3))
     all_goals (
      have BB:=Lib.hid ((HBW.out.drew.trans (hbU.mono (by simp;omega))).alloc (by have:=hbU.size;simp at this;omega) (.cells (arCells x nilV).toArray 41) |>.trans (hb3.mono (by omega)))
      have BU3:=Lib.hid (((HBU.out.drew.bel (hbU.mono (by simp;omega))).bel ((Below.refl w2.heap.size w2).alloc (Nat.le_refl _) (.cells (arCells x nilV).toArray 41) |>.mono (by have:=hbU.size;simp at this;omega))).bel hb3)
      have O3:Hid (w3.ownsRow w10.heap.size 41 8 (.slice A9 ((accD d s n2 0).length + 1) c9) (accD d s n2 1).length (rowA (accD d s n2 1))):=Lib.hid (by rw [HROW.out,HLEN.out];exact hown3)
      have T3:=Lib.hid hT3'
      clear hT3' hown3 hb3 hgr3 hbU hown2 q1 q2 HROW HOW HBU HBW
      go_simp
      go_wp2_with fail
      go_roundw
      case rel=>exact ⟨1,by omega,by go_num,_,heap_set (i:=3) _ T3.out,own_set O3.out (by omega),BU3.out.set 3 _,BB.out.setCell (by show w.heap.size ≤ T;omega) _⟩
      case measure=>simp [intOf])
    ·by_cases h20:d=20
     ·have hz:=h20
      have h1:arg86D d n2 = [numA n2]:=by unfold arg86D;rw [if_neg (by omega),if_neg (by omega),if_pos hz]
      have e1:((d:Int) == 0)=false:=by rw [beq_eq_false_iff_ne];omega
      have e2:((d:Int) == 19)=false:=by rw [beq_eq_false_iff_ne];omega
      have e3:((d:Int) == 20)=true:=by rw [beq_iff_eq];omega
      have HROW:Hid (rowA (accD d s n2 1)=rowA (accD d s n2 0) ++ arCells (numA n2) nilV):=Lib.hid (by rw [show accD d s n2 1=accD d s n2 0 ++ [numA n2] from by simp [accD,h1],rowA_snoc])
      clear hz h20
      have hlen0:=accD_len d s n2 0
      have HLEN:Hid ((accD d s n2 1).length=(accD d s n2 0).length + 1):=Lib.hid (by simp [accD,h1])
      have HOP:=Lib.hid (fun W=>doperand_any sn1 n2 W)
      rw [show operandD sn1 n2=numA n2 from rfl] at HOP
      skip
      have cT:=cell_of_heap (i:=3) hCT
      have fT:=frozen_of_heap (i:=3) hCT
      have cK:=cell_of_heap (i:=3) ((HBU.out.2 K (by omega) (by omega)).trans D10.out)
      simp at cT fT cK
      clear h1 hCT
      generalize (numA n2:Ar)=x at *
      go_wp2_with fail
      go_region_law (first | (go_simp;go_at_call 15;refine (HOP.out _).mono ?_;rintro e w2 ⟨rfl,hbU⟩;have q1:=(hbU.cell (p:=⟨T,3,none⟩) z1).trans cT;have q2:=(hbU.cell (p:=⟨K,3,none⟩) (by show K < wr.heap.size;omega)).trans cK;have q5:T < w2.heap.size:=(by have:=hbU.size;simp at this;omega);have q6:K < w2.heap.size:=(by have:=hbU.size;simp at this;omega);have hown2:=own_below HOW.out.drew hbU) | (refine step_append_at _ (by rfl) _ _ _ (by rfl) w10.heap.size 41 _ 8 104 Tryz.underlying29 info_ar rfl (by decide) (hown2.alloc _) (by rfl) ⟨w2.heap.size,0,none⟩ (arCells x nilV) (by rfl) (by rfl) (cells_new w2 (arCells x nilV) _) (arCells_one _ _ rfl) (by omega) (by omega) (by simp;have:=hbU.size;simp at this;omega) ?_;intro v' w3 hown3 hb3 hgr3;obtain ⟨A9,c9,rfl,hc9,hm9,_⟩:=own_slice hown3 (by omega);have hT3':=(hb3.block T (by omega)).trans ((Below.heap_alloc w2 (.cells (arCells x nilV).toArray 41) T (by have:=hbU.size;simp at this;omega)).trans ((hbU.block T z1).trans HT.out));have q3:=cell_of_heap (i:=3) hT3';have f3:=frozen_of_heap (i:=3) hT3';simp at q3 f3))
      all_goals (
       have BB:=Lib.hid ((HBW.out.drew.trans (hbU.mono (by simp;omega))).alloc (by have:=hbU.size;simp at this;omega) (.cells (arCells x nilV).toArray 41) |>.trans (hb3.mono (by omega)))
       have BU3:=Lib.hid (((HBU.out.drew.bel (hbU.mono (by simp;omega))).bel ((Below.refl w2.heap.size w2).alloc (Nat.le_refl _) (.cells (arCells x nilV).toArray 41) |>.mono (by have:=hbU.size;simp at this;omega))).bel hb3)
       have O3:Hid (w3.ownsRow w10.heap.size 41 8 (.slice A9 ((accD d s n2 0).length + 1) c9) (accD d s n2 1).length (rowA (accD d s n2 1))):=Lib.hid (by rw [HROW.out,HLEN.out];exact hown3)
       have T3:=Lib.hid hT3'
       clear hT3' hown3 hb3 hgr3 hbU hown2 q1 q2 HROW HOW HBU HBW
       go_simp
       go_wp2_with fail
       go_roundw
       case rel=>exact ⟨1,by omega,by go_num,_,heap_set (i:=3) _ T3.out,own_set O3.out (by omega),BU3.out.set 3 _,BB.out.setCell (by show w.heap.size ≤ T;omega) _⟩
       case measure=>simp [intOf])
     ·
      have h1:arg86D d n2 = [operandD (argL d) 0]:=by unfold arg86D;rw [if_neg hz,if_neg h19,if_neg h20]
      have e1:((d:Int) == 0)=false:=by rw [beq_eq_false_iff_ne];omega
      have e2:((d:Int) == 19)=false:=by rw [beq_eq_false_iff_ne];omega
      have e3:((d:Int) == 20)=false:=by rw [beq_eq_false_iff_ne];omega
      have HROW:Hid (rowA (accD d s n2 1)=rowA (accD d s n2 0) ++ arCells (operandD (argL d) 0) nilV):=Lib.hid (by rw [show accD d s n2 1=accD d s n2 0 ++ [operandD (argL d) 0] from by simp [accD,h1],rowA_snoc])
      skip
      have hlen0:=accD_len d s n2 0
      have HLEN:Hid ((accD d s n2 1).length=(accD d s n2 0).length + 1):=Lib.hid (by simp [accD,h1])
      have HOP:=Lib.hid (fun W=>doperand_any (argL d) 0 W)
      have HAG:=Lib.hid (fun W (hW:Below wr.heap.size wr W)=>argX_any d W (hg.below (bthen HBW.out hW)) (by omega) (by omega))
      have cT:=cell_of_heap (i:=3) hCT
      have fT:=frozen_of_heap (i:=3) hCT
      have cK:=cell_of_heap (i:=3) ((HBU.out.2 K (by omega) (by omega)).trans D10.out)
      simp at cT fT cK
      clear h1 hCT
      generalize operandD (argL d) 0=x at *
      go_wp2_with fail
      go_region_law (first | (go_simp;go_at_call 65;refine (HAG.out _ ((Below.refl _ _).drew)).mono ?_;rintro e wa ⟨rfl,hbA⟩;have qa1:=(hbA.cell (p:=⟨T,3,none⟩) z1).trans cT;have zA:T < wa.heap.size:=(by have:=hbA.size;simp at this;omega)) | (go_simp;go_at_call 15;refine (HOP.out _).mono ?_;rintro e w2 ⟨rfl,hbV⟩;have hbU:=bthen hbA hbV;have q1:=(hbU.cell (p:=⟨T,3,none⟩) z1).trans cT;have q2:=(hbU.cell (p:=⟨K,3,none⟩) (by show K < wr.heap.size;omega)).trans cK;have q5:T < w2.heap.size:=(by have:=hbU.size;simp at this;omega);have q6:K < w2.heap.size:=(by have:=hbU.size;simp at this;omega);have hown2:=own_below HOW.out.drew hbU) | (refine step_append_at _ (by rfl) _ _ _ (by rfl) w10.heap.size 41 _ 8 104 Tryz.underlying29 info_ar rfl (by decide) (hown2.alloc _) (by rfl) ⟨w2.heap.size,0,none⟩ (arCells x nilV) (by rfl) (by rfl) (cells_new w2 (arCells x nilV) _) (arCells_one _ _ rfl) (by omega) (by omega) (by simp;have:=hbU.size;simp at this;omega) ?_;intro v' w3 hown3 hb3 hgr3;obtain ⟨A9,c9,rfl,hc9,hm9,_⟩:=own_slice hown3 (by omega);have hT3':=(hb3.block T (by omega)).trans ((Below.heap_alloc w2 (.cells (arCells x nilV).toArray 41) T (by have:=hbU.size;simp at this;omega)).trans ((hbU.block T z1).trans HT.out));have q3:=cell_of_heap (i:=3) hT3';have f3:=frozen_of_heap (i:=3) hT3';simp at q3 f3))
      all_goals (
       have BB:=Lib.hid ((HBW.out.drew.trans (hbU.mono (by simp;omega))).alloc (by have:=hbU.size;simp at this;omega) (.cells (arCells x nilV).toArray 41) |>.trans (hb3.mono (by omega)))
       have BU3:=Lib.hid (((HBU.out.drew.bel (hbU.mono (by simp;omega))).bel ((Below.refl w2.heap.size w2).alloc (Nat.le_refl _) (.cells (arCells x nilV).toArray 41) |>.mono (by have:=hbU.size;simp at this;omega))).bel hb3)
       have O3:Hid (w3.ownsRow w10.heap.size 41 8 (.slice A9 ((accD d s n2 0).length + 1) c9) (accD d s n2 1).length (rowA (accD d s n2 1))):=Lib.hid (by rw [HROW.out,HLEN.out];exact hown3)
       have T3:=Lib.hid hT3'
       clear hT3' hown3 hb3 hgr3 hbU hown2 q1 q2 HROW HOW HBU HBW hbA hbV qa1 HAG
       go_simp
       go_wp2_with fail
       go_roundw
       case rel=>exact ⟨1,by omega,by go_num,_,heap_set (i:=3) _ T3.out,own_set O3.out (by omega),BU3.out.set 3 _,BB.out.setCell (by show w.heap.size ≤ T;omega) _⟩
       case measure=>simp [intOf])
  ·by_cases hz:s=0
   ·
    have h1:arg86D s n2 = []:=by unfold arg86D;rw [if_pos hz]
    have e1:((s:Int) == 0)=true:=by rw [beq_iff_eq];omega
    clear hz
    go_wp2_with fail
    go_roundw
    case rel=>exact ⟨2,by omega,by go_num,by rw [show accD d s n2 2=accD d s n2 1 from by simp [accD,h1]];exact ⟨_,HT.out,HOW.out,HBU.out,HBW.out⟩⟩
    case measure=>simp [intOf]
   ·by_cases h19:s=19
    ·have hz:=h19
     have h1:arg86D s n2 = [memA n2]:=by unfold arg86D;rw [if_neg (by omega),if_pos hz]
     have e1:((s:Int) == 0)=false:=by rw [beq_eq_false_iff_ne];omega
     have e2:((s:Int) == 19)=true:=by rw [beq_iff_eq];omega
     have HROW:Hid (rowA (accD d s n2 2)=rowA (accD d s n2 1) ++ arCells (memA n2) nilV):=Lib.hid (by rw [show accD d s n2 2=accD d s n2 1 ++ [memA n2] from by simp [accD,h1],rowA_snoc])
     clear hz h19
     have hlen0:=accD_len d s n2 1
     have HLEN:Hid ((accD d s n2 2).length=(accD d s n2 1).length + 1):=Lib.hid (by simp [accD,h1])
     have HOP:=Lib.hid (fun W=>doperand_any smn1 n2 W)
     rw [show operandD smn1 n2=memA n2 from rfl] at HOP
     skip
     have cT:=cell_of_heap (i:=3) hCT
     have fT:=frozen_of_heap (i:=3) hCT
     have cK:=cell_of_heap (i:=3) ((HBU.out.2 K (by omega) (by omega)).trans D10.out)
     simp at cT fT cK
     clear h1 hCT
     generalize (memA n2:Ar)=x at *
     go_wp2_with fail
     go_region_law (first | (go_simp;go_at_call 15;refine (HOP.out _).mono ?_;rintro e w2 ⟨rfl,hbU⟩;have q1:=(hbU.cell (p:=⟨T,3,none⟩) z1).trans cT;have q2:=(hbU.cell (p:=⟨K,3,none⟩) (by show K < wr.heap.size;omega)).trans cK;have q5:T < w2.heap.size:=(by have:=hbU.size;simp at this;omega);have q6:K < w2.heap.size:=(by have:=hbU.size;simp at this;omega);have hown2:=own_below HOW.out.drew hbU) | (refine step_append_at _ (by rfl) _ _ _ (by rfl) w10.heap.size 41 _ 8 104 Tryz.underlying29 info_ar rfl (by decide) (hown2.alloc _) (by rfl) ⟨w2.heap.size,0,none⟩ (arCells x nilV) (by rfl) (by rfl) (cells_new w2 (arCells x nilV) _) (arCells_one _ _ rfl) (by omega) (by omega) (by simp;have:=hbU.size;simp at this;omega) ?_;intro v' w3 hown3 hb3 hgr3;obtain ⟨A9,c9,rfl,hc9,hm9,_⟩:=own_slice hown3 (by omega);have hT3':=(hb3.block T (by omega)).trans ((Below.heap_alloc w2 (.cells (arCells x nilV).toArray 41) T (by have:=hbU.size;simp at this;omega)).trans ((hbU.block T z1).trans HT.out));have q3:=cell_of_heap (i:=3) hT3';have f3:=frozen_of_heap (i:=3) hT3';simp at q3 f3))
     all_goals (
      have BB:=Lib.hid ((HBW.out.drew.trans (hbU.mono (by simp;omega))).alloc (by have:=hbU.size;simp at this;omega) (.cells (arCells x nilV).toArray 41) |>.trans (hb3.mono (by omega)))
      have BU3:=Lib.hid (((HBU.out.drew.bel (hbU.mono (by simp;omega))).bel ((Below.refl w2.heap.size w2).alloc (Nat.le_refl _) (.cells (arCells x nilV).toArray 41) |>.mono (by have:=hbU.size;simp at this;omega))).bel hb3)
      have O3:Hid (w3.ownsRow w10.heap.size 41 8 (.slice A9 ((accD d s n2 1).length + 1) c9) (accD d s n2 2).length (rowA (accD d s n2 2))):=Lib.hid (by rw [HROW.out,HLEN.out];exact hown3)
      have T3:=Lib.hid hT3'
      clear hT3' hown3 hb3 hgr3 hbU hown2 q1 q2 HROW HOW HBU HBW
      go_simp
      go_wp2_with fail
      go_roundw
      case rel=>exact ⟨2,by omega,by go_num,_,heap_set (i:=3) _ T3.out,own_set O3.out (by omega),BU3.out.set 3 _,BB.out.setCell (by show w.heap.size ≤ T;omega) _⟩
      case measure=>simp [intOf])
    ·by_cases h20:s=20
     ·have hz:=h20
      have h1:arg86D s n2 = [numA n2]:=by unfold arg86D;rw [if_neg (by omega),if_neg (by omega),if_pos hz]
      have e1:((s:Int) == 0)=false:=by rw [beq_eq_false_iff_ne];omega
      have e2:((s:Int) == 19)=false:=by rw [beq_eq_false_iff_ne];omega
      have e3:((s:Int) == 20)=true:=by rw [beq_iff_eq];omega
      have HROW:Hid (rowA (accD d s n2 2)=rowA (accD d s n2 1) ++ arCells (numA n2) nilV):=Lib.hid (by rw [show accD d s n2 2=accD d s n2 1 ++ [numA n2] from by simp [accD,h1],rowA_snoc])
      clear hz h20
      have hlen0:=accD_len d s n2 1
      have HLEN:Hid ((accD d s n2 2).length=(accD d s n2 1).length + 1):=Lib.hid (by simp [accD,h1])
      have HOP:=Lib.hid (fun W=>doperand_any sn1 n2 W)
      rw [show operandD sn1 n2=numA n2 from rfl] at HOP
      skip
      have cT:=cell_of_heap (i:=3) hCT
      have fT:=frozen_of_heap (i:=3) hCT
      have cK:=cell_of_heap (i:=3) ((HBU.out.2 K (by omega) (by omega)).trans D10.out)
      simp at cT fT cK
      clear h1 hCT
      generalize (numA n2:Ar)=x at *
      go_wp2_with fail
      go_region_law (first | (go_simp;go_at_call 15;refine (HOP.out _).mono ?_;rintro e w2 ⟨rfl,hbU⟩;have q1:=(hbU.cell (p:=⟨T,3,none⟩) z1).trans cT;have q2:=(hbU.cell (p:=⟨K,3,none⟩) (by show K < wr.heap.size;omega)).trans cK;have q5:T < w2.heap.size:=(by have:=hbU.size;simp at this;omega);have q6:K < w2.heap.size:=(by have:=hbU.size;simp at this;omega);have hown2:=own_below HOW.out.drew hbU) | (refine step_append_at _ (by rfl) _ _ _ (by rfl) w10.heap.size 41 _ 8 104 Tryz.underlying29 info_ar rfl (by decide) (hown2.alloc _) (by rfl) ⟨w2.heap.size,0,none⟩ (arCells x nilV) (by rfl) (by rfl) (cells_new w2 (arCells x nilV) _) (arCells_one _ _ rfl) (by omega) (by omega) (by simp;have:=hbU.size;simp at this;omega) ?_;intro v' w3 hown3 hb3 hgr3;obtain ⟨A9,c9,rfl,hc9,hm9,_⟩:=own_slice hown3 (by omega);have hT3':=(hb3.block T (by omega)).trans ((Below.heap_alloc w2 (.cells (arCells x nilV).toArray 41) T (by have:=hbU.size;simp at this;omega)).trans ((hbU.block T z1).trans HT.out));have q3:=cell_of_heap (i:=3) hT3';have f3:=frozen_of_heap (i:=3) hT3';simp at q3 f3))
      all_goals (
       have BB:=Lib.hid ((HBW.out.drew.trans (hbU.mono (by simp;omega))).alloc (by have:=hbU.size;simp at this;omega) (.cells (arCells x nilV).toArray 41) |>.trans (hb3.mono (by omega)))
       have BU3:=Lib.hid (((HBU.out.drew.bel (hbU.mono (by simp;omega))).bel ((Below.refl w2.heap.size w2).alloc (Nat.le_refl _) (.cells (arCells x nilV).toArray 41) |>.mono (by have:=hbU.size;simp at this;omega))).bel hb3)
       have O3:Hid (w3.ownsRow w10.heap.size 41 8 (.slice A9 ((accD d s n2 1).length + 1) c9) (accD d s n2 2).length (rowA (accD d s n2 2))):=Lib.hid (by rw [HROW.out,HLEN.out];exact hown3)
       have T3:=Lib.hid hT3'
       clear hT3' hown3 hb3 hgr3 hbU hown2 q1 q2 HROW HOW HBU HBW
       go_simp
       go_wp2_with fail
       go_roundw
       case rel=>exact ⟨2,by omega,by go_num,_,heap_set (i:=3) _ T3.out,own_set O3.out (by omega),BU3.out.set 3 _,BB.out.setCell (by show w.heap.size ≤ T;omega) _⟩
       case measure=>simp [intOf])
     ·
      have h1:arg86D s n2 = [operandD (argL s) 0]:=by unfold arg86D;rw [if_neg hz,if_neg h19,if_neg h20]
      have e1:((s:Int) == 0)=false:=by rw [beq_eq_false_iff_ne];omega
      have e2:((s:Int) == 19)=false:=by rw [beq_eq_false_iff_ne];omega
      have e3:((s:Int) == 20)=false:=by rw [beq_eq_false_iff_ne];omega
      have HROW:Hid (rowA (accD d s n2 2)=rowA (accD d s n2 1) ++ arCells (operandD (argL s) 0) nilV):=Lib.hid (by rw [show accD d s n2 2=accD d s n2 1 ++ [operandD (argL s) 0] from by simp [accD,h1],rowA_snoc])
      skip
      have hlen0:=accD_len d s n2 1
      have HLEN:Hid ((accD d s n2 2).length=(accD d s n2 1).length + 1):=Lib.hid (by simp [accD,h1])
      have HOP:=Lib.hid (fun W=>doperand_any (argL s) 0 W)
      have HAG:=Lib.hid (fun W (hW:Below wr.heap.size wr W)=>argX_any s W (hg.below (bthen HBW.out hW)) (by omega) (by omega))
      have cT:=cell_of_heap (i:=3) hCT
      have fT:=frozen_of_heap (i:=3) hCT
      have cK:=cell_of_heap (i:=3) ((HBU.out.2 K (by omega) (by omega)).trans D10.out)
      simp at cT fT cK
      clear h1 hCT
      generalize operandD (argL s) 0=x at *
      go_wp2_with fail
      go_region_law (first | (go_simp;go_at_call 65;refine (HAG.out _ ((Below.refl _ _).drew)).mono ?_;rintro e wa ⟨rfl,hbA⟩;have qa1:=(hbA.cell (p:=⟨T,3,none⟩) z1).trans cT;have zA:T < wa.heap.size:=(by have:=hbA.size;simp at this;omega)) | (go_simp;go_at_call 15;refine (HOP.out _).mono ?_;rintro e w2 ⟨rfl,hbV⟩;have hbU:=bthen hbA hbV;have q1:=(hbU.cell (p:=⟨T,3,none⟩) z1).trans cT;have q2:=(hbU.cell (p:=⟨K,3,none⟩) (by show K < wr.heap.size;omega)).trans cK;have q5:T < w2.heap.size:=(by have:=hbU.size;simp at this;omega);have q6:K < w2.heap.size:=(by have:=hbU.size;simp at this;omega);have hown2:=own_below HOW.out.drew hbU) | (refine step_append_at _ (by rfl) _ _ _ (by rfl) w10.heap.size 41 _ 8 104 Tryz.underlying29 info_ar rfl (by decide) (hown2.alloc _) (by rfl) ⟨w2.heap.size,0,none⟩ (arCells x nilV) (by rfl) (by rfl) (cells_new w2 (arCells x nilV) _) (arCells_one _ _ rfl) (by omega) (by omega) (by simp;have:=hbU.size;simp at this;omega) ?_;intro v' w3 hown3 hb3 hgr3;obtain ⟨A9,c9,rfl,hc9,hm9,_⟩:=own_slice hown3 (by omega);have hT3':=(hb3.block T (by omega)).trans ((Below.heap_alloc w2 (.cells (arCells x nilV).toArray 41) T (by have:=hbU.size;simp at this;omega)).trans ((hbU.block T z1).trans HT.out));have q3:=cell_of_heap (i:=3) hT3';have f3:=frozen_of_heap (i:=3) hT3';simp at q3 f3))
      all_goals (
       have BB:=Lib.hid ((HBW.out.drew.trans (hbU.mono (by simp;omega))).alloc (by have:=hbU.size;simp at this;omega) (.cells (arCells x nilV).toArray 41) |>.trans (hb3.mono (by omega)))
       have BU3:=Lib.hid (((HBU.out.drew.bel (hbU.mono (by simp;omega))).bel ((Below.refl w2.heap.size w2).alloc (Nat.le_refl _) (.cells (arCells x nilV).toArray 41) |>.mono (by have:=hbU.size;simp at this;omega))).bel hb3)
       have O3:Hid (w3.ownsRow w10.heap.size 41 8 (.slice A9 ((accD d s n2 1).length + 1) c9) (accD d s n2 2).length (rowA (accD d s n2 2))):=Lib.hid (by rw [HROW.out,HLEN.out];exact hown3)
       have T3:=Lib.hid hT3'
       clear hT3' hown3 hb3 hgr3 hbU hown2 q1 q2 HROW HOW HBU HBW hbA hbV qa1 HAG
       go_simp
       go_wp2_with fail
       go_roundw
       case rel=>exact ⟨2,by omega,by go_num,_,heap_set (i:=3) _ T3.out,own_set O3.out (by omega),BU3.out.set 3 _,BB.out.setCell (by show w.heap.size ≤ T;omega) _⟩
       case measure=>simp [intOf])
  ·
   have CR:=(HBU.out.2 w.heap.size (by omega) (by omega)).trans C10.out
   have k0:=cell_of_heap (i:=0) CR
   have f0:=frozen_of_heap (i:=0) CR
   have k1:=cell_of_heap (i:=1) CR
   have f1:=frozen_of_heap (i:=1) CR
   have k2:=cell_of_heap (i:=2) CR
   have f2:=frozen_of_heap (i:=2) CR
   have k3:=cell_of_heap (i:=3) CR
   have f3:=frozen_of_heap (i:=3) CR
   simp at k0 k1 k2 k3 f0 f1 f2 f3
   have t0:=cell_of_heap (i:=0) HT.out
   have g0:=frozen_of_heap (i:=0) HT.out
   have t1:=cell_of_heap (i:=1) HT.out
   have g1:=frozen_of_heap (i:=1) HT.out
   have t2:=cell_of_heap (i:=2) HT.out
   have g2:=frozen_of_heap (i:=2) HT.out
   have t3:=cell_of_heap (i:=3) HT.out
   have g3:=frozen_of_heap (i:=3) HT.out
   simp at t0 t1 t2 t3 g0 g1 g2 g3
   have O2:=Lib.hid HOW.out
   have BB:=Lib.hid HBW.out
   clear CR hCT HOW HBW HBU HT T10 D10 C10 B10
   go_wp2_with fail
   refine bodyPost_ret (v:=.tuple #[.agg #[.string ⟨#[]⟩,.bool false,.string ⟨nm.toArray⟩,.slice vA (accD d s n2 2).length vc],.int .i64 size,.int .i64 n2]) (by simp [results,Tryz.results35,go_sem,k0,k1,k2,k3]) rfl ⟨_,(by have h:=HNM.out;subst h;rfl),?_,?_⟩
   ·exact own_more (own_set (own_set (own_set (own_set O2.out (by omega)) (by omega)) (by omega)) (by omega)) (by omega)
   ·exact (((BB.out.setCell (Nat.le_refl _) _).setCell (Nat.le_refl _) _).setCell (Nat.le_refl _) _).setCell (Nat.le_refl _) _
end Go.Proofs.YtagplldaooipmaaGreatDoor
/- disasm: first86. -/
namespace Go.Proofs.YtagplldaooipmaaGreatDoor
open Go.RowKit
theorem first86_any (pl:Nat) (b:List UInt8) (v:Value) (w:World) (hg:GWL w) (hr:RdB w w.heap.size v b) (hl:pl + b.length ≤ 1000000) (h0:b ≠ []) :
  Calls Tryz.prog 35 #[.int .i64 (pl:Int),v] w (StR w (first86D pl b).1 (first86D pl b).2.1 (first86D pl b).2.2):=by
 unfold first86D
 by_cases hk:(read86 b).2.2 ≠ 0
 ·rw [if_pos hk]
  generalize hrd:read86 b=r at *
  obtain ⟨⟨op,d,s,n⟩,size,kd⟩:=r
  exact first86_bad pl b v w hr (by omega) h0 op d s n size kd hrd hk
 ·rw [if_neg hk]
  have hk0:(read86 b).2.2=0:=by omega
  obtain ⟨f1,f2,f3,f4,f5⟩:=first86_num pl b hk0
  generalize hrd:read86 b=r at *
  obtain ⟨⟨op,d,s,n⟩,size,kd⟩:=r
  simp only at hk0 f1 f2 f3 f4 f5 ⊢
  subst hk0
  cases hj:jumps86 op with
  | false=>exact first86_n pl b v w hg hr hl op d s n size n hrd f2 f3 f4 f1 f5 hj rfl
  | true=>exact first86_j pl b v w hg hr hl op d s n size _ hrd f2 f3 f4 f1 f5 hj rfl
end Go.Proofs.YtagplldaooipmaaGreatDoor
