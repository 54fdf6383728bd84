/- Wd. -/
import Derived.Test.YtagplldaooipmaaGreatDoorWa
import Derived.Test.YtagplldaooipmaaGreatDoorUg
import Derived.Test.YtagplldaooipmaaGreatDoorVd
import Derived.Test.YtagplldaooipmaaGreatDoorKd
import Derived.RegionTactic
import Derived.Deep.QuietTactic
import Derived.BigQuiet
namespace Go.Proofs.YtagplldaooipmaaGreatDoor
open Go.RowKit
theorem refnum_any (n:Nat) (w:World):Calls Tryz.prog 19 #[.int .u16 n] w fun e w'=>e=.returned (.agg #[.string ⟨#[35]⟩,.int .u16 n,.string ⟨#[]⟩,nilV])∧Below w.heap.size w w':=by
 go_enter Tryz.func19, Tryz.ntmps19
 go_wp2_with fail
 exact bodyPost_ret (v:=.agg #[.string ⟨#[35]⟩,.int .u16 n,.string ⟨#[]⟩,nilV]) (by simp [results,Tryz.results19,go_sem]) rfl ⟨rfl,(Below.refl _ _).alloc (Nat.le_refl _) _⟩
theorem refword_any (s:List UInt8) (w:World):Calls Tryz.prog 75 #[.string ⟨s.toArray⟩] w fun e w'=>e=.returned (arV (wordA s) nilV)∧Below w.heap.size w w':=by
 go_enter Tryz.func75, Tryz.ntmps75
 go_wp2_with fail
 exact bodyPost_ret (v:=.agg #[.string ⟨s.toArray⟩,.string ⟨#[]⟩,.bool false,.bool false,.string ⟨#[]⟩,.int .u16 0,.string ⟨#[]⟩,nilV]) (by simp [results,Tryz.results75,go_sem]) rfl ⟨rfl,(Below.refl _ _).alloc (Nat.le_refl _) _⟩
def rpCells (p:Rp) (v:Value):List Value:=[.int .i64 p.pl,.int .i64 p.size,.string ⟨p.op.toArray⟩,v,.bool p.jumps,.int .i64 p.tn,.int .u8 p.b]
def PieceR (w:World) (r:Rp) (e:Ending) (w':World):Prop:=∃ v,e=.returned (.agg #[.int .i64 r.pl,.int .i64 r.size,.string ⟨r.op.toArray⟩,v,.bool r.jumps,.int .i64 r.tn,.int .u8 r.b])∧w'.ownsRow w.heap.size 41 8 v r.args.length (rowA r.args)∧Below w.heap.size w w'
def PieceL (w w0:World) (T:Nat) (F:List UInt8 → Ar) (ar:List (List UInt8)) (pl size:Nat) (nm:List UInt8) (j:Bool) (n:Nat) (k:Nat) (wr:World):Prop:=∃ v,wr.heap[T]? = some (.cells #[.int .i64 pl,.int .i64 size,.string ⟨nm.toArray⟩,v,.bool j,.int .i64 n,.int .u8 0] 56 (0,0))∧wr.ownsRow w0.heap.size 41 8 v k (rowA ((ar.take k).map F))∧But w0.heap.size T w0 wr∧Below w.heap.size w wr
theorem seven {W:World} {T:Nat} {a b c d e f g:Value} {t:TypeId} (h:W.heap[T]? = some (.cells #[a,b,c,d,e,f,g] t (0,0))) :
  (W.cell? ⟨T,0,none⟩=some a∧W.cell? ⟨T,1,none⟩=some b∧W.cell? ⟨T,2,none⟩=some c∧W.cell? ⟨T,3,none⟩=some d∧W.cell? ⟨T,4,none⟩=some e∧W.cell? ⟨T,5,none⟩=some f∧W.cell? ⟨T,6,none⟩=some g) ∧
  W.frozen? ⟨T,0,none⟩=false∧W.frozen? ⟨T,1,none⟩=false∧W.frozen? ⟨T,2,none⟩=false∧W.frozen? ⟨T,3,none⟩=false∧W.frozen? ⟨T,4,none⟩=false∧W.frozen? ⟨T,5,none⟩=false∧W.frozen? ⟨T,6,none⟩=false:=
 ⟨⟨cell_of_heap h,cell_of_heap h,cell_of_heap h,cell_of_heap h,cell_of_heap h,cell_of_heap h,cell_of_heap h⟩,frozen_of_heap h,frozen_of_heap h,frozen_of_heap h,frozen_of_heap h,frozen_of_heap h,frozen_of_heap h,frozen_of_heap h⟩
theorem info_rp:(Tryz.prog.info? 56).map (fun i=>(i.zero,i.size,i.bytes))=some (some (.agg #[.int .i64 0,.int .i64 0,.string ⟨#[]⟩,.slice none 0 0,.bool false,.int .i64 0,.int .u8 0]),7,80):=by kernel_rfl
end Go.Proofs.YtagplldaooipmaaGreatDoor
/- The reference's layer 17: of80. -/
namespace Go.Proofs.YtagplldaooipmaaGreatDoor
open Go.RowKit
theorem eightR {W:World} {T:Nat} {a b c d e f g h:Value} {t:TypeId} (H:W.heap[T]? = some (.cells #[a,b,c,d,e,f,g,h] t (0,0))) :
  (W.cell? ⟨T,0,none⟩=some a∧W.cell? ⟨T,1,none⟩=some b∧W.cell? ⟨T,2,none⟩=some c∧W.cell? ⟨T,3,none⟩=some d∧W.cell? ⟨T,4,none⟩=some e∧W.cell? ⟨T,5,none⟩=some f∧W.cell? ⟨T,6,none⟩=some g∧W.cell? ⟨T,7,none⟩=some h) ∧
  W.frozen? ⟨T,0,none⟩=false∧W.frozen? ⟨T,1,none⟩=false∧W.frozen? ⟨T,2,none⟩=false∧W.frozen? ⟨T,3,none⟩=false∧W.frozen? ⟨T,4,none⟩=false∧W.frozen? ⟨T,5,none⟩=false∧W.frozen? ⟨T,6,none⟩=false∧W.frozen? ⟨T,7,none⟩=false:=
 ⟨⟨cell_of_heap H,cell_of_heap H,cell_of_heap H,cell_of_heap H,cell_of_heap H,cell_of_heap H,cell_of_heap H,cell_of_heap H⟩,frozen_of_heap H,frozen_of_heap H,frozen_of_heap H,frozen_of_heap H,frozen_of_heap H,frozen_of_heap H,frozen_of_heap H,frozen_of_heap H⟩
theorem but_cell {w0 wr:World} {T:Nat} {c0 c1 c2 c4 c5 c6 v:Value} {t:TypeId} {g i:Nat} {s:ByteArray} (h0:w0.heap[T]? = some (.cells #[c0,c1,c2,.slice none 0 0,c4,c5,c6] t (0,0))) (hr:wr.heap[T]? = some (.cells #[c0,c1,c2,v,c4,c5,c6] t (0,0))) (hb:But w0.heap.size T w0 wr) (hg:g < w0.heap.size) (hc:w0.cell? ⟨g,i,none⟩=some (.string s)):wr.cell? ⟨g,i,none⟩=some (.string s):=by
 by_cases he:g=T
 ·subst he
  rw [cell_of_heap h0] at hc
  rw [cell_of_heap hr]
  match i,hc with
  | 0,hc=>exact hc
  | 1,hc=>exact hc
  | 2,hc=>exact hc
  | 3,hc=>simp at hc
  | 4,hc=>exact hc
  | 5,hc=>exact hc
  | 6,hc=>exact hc
  | n + 7,hc=>simp at hc
 ·exact (World.cell?_of_block (hb.2 g hg he)).trans hc
theorem rst_words6:∀ k:Fin 256,k.val / 64=3∧k.val % 8=7 → (args80 k.val).length=1∧∀ s ∈ args80 k.val,s ≠ sD8∧s ≠ sD16∧s ≠ sn1∧s ≠ sn2∧s ≠ smn1∧s ≠ smn2:=by decide +kernel
theorem rst_words7:∀ k:Fin 256,k.val / 64=3∧k.val % 8=7 → (zargs k.val).length=1∧∀ s ∈ zargs k.val,s ≠ sD8∧s ≠ sD16∧s ≠ sn1∧s ≠ sn2∧s ≠ smn1∧s ≠ smn2:=by decide +kernel
set_option maxHeartbeats 4000000 in
theorem of80_bad (d:Int) (pl:Nat) (b:List UInt8) (v:Value) (w:World) (hr:RdB w w.heap.size v b) (hl:b.length ≤ 1000000) (h0:b ≠ []) (op n size kd:Nat) (hrd:read80 b=((op,n),size,kd)) (hk:kd ≠ 0) :
  Calls Tryz.prog 39 #[.int .i64 d,.int .i64 pl,v] w (PieceR w ⟨pl,1,[],[],false,0,byteN b 0⟩):=by
 have HR:=Lib.hid (fun W (hW:Below w.heap.size w W)=>refRead6_any b v W ((hr.below hW).more hW.size) hl)
 rw [hrd] at HR
 simp only at HR
 have hk':((kd:Int) != 0)=true:=by rw [bne_iff_ne];omega
 obtain ⟨A,c,rfl,hc⟩:=hr.form
 have hlen:0 < b.length:=List.length_pos_iff.2 h0
 obtain ⟨g,o,rfl,hg,hcell⟩:=hr.get 0 hlen
 have c0:=hcell 0 hlen
 rw [Nat.add_zero] at c0
 generalize byteN b 0=x at *
 generalize b.length=bl at *
 clear hrd hr hc hl hk hcell h0
 go_enter Tryz.func39, Tryz.ntmps39
 go_wp2_with fail
 refine (HR.out _ ((Below.refl _ _).alloc (Nat.le_refl _) _)).mono ?_
 rintro e w1 ⟨rfl,hb1⟩
 have B1:=Lib.hid (bthen ((Below.refl _ _).alloc (Nat.le_refl _) _) hb1)
 have C1:=Lib.hid ((hb1.block w.heap.size (by simp)).trans (heap_alloc_new w _))
 have d0:=(hb1.cell (p:=⟨g,o,none⟩) (by simp;omega)).trans ((World.cell?_alloc_lt w (.cells #[.int .i64 0,.int .i64 0,.string ⟨#[]⟩,.slice none 0 0,.bool false,.int .i64 0,.int .u8 0] 56) ⟨g,o,none⟩ hg).trans c0)
 have Z1:=Lib.hid (lt_of_heap C1.out)
 have hgz:g < w1.heap.size:=by have:=Z1.out;omega
 obtain ⟨⟨k0,k1,k2,k3,k4,k5,k6⟩,f0,f1,f2,f3,f4,f5,f6⟩:=seven C1.out
 clear hb1 HR c0
 go_wp2_with fail
 refine bodyPost_ret (v:=.agg #[.int .i64 pl,.int .i64 1,.string ⟨#[]⟩,nilV,.bool false,.int .i64 0,.int .u8 x]) (by simp [results,Tryz.results39,go_sem,k0,k1,k2,k3,k4,k5,k6]) rfl ⟨_,rfl,World.ownsRow_nil _ _ _ _,?_⟩
 exact ((((((B1.out.setCell (Nat.le_refl _) _).setCell (Nat.le_refl _) _).setCell (Nat.le_refl _) _).setCell (Nat.le_refl _) _).setCell (Nat.le_refl _) _).setCell (Nat.le_refl _) _).setCell (Nat.le_refl _) _
end Go.Proofs.YtagplldaooipmaaGreatDoor
/- The reference's layer 17: pieces in memory. -/
namespace Go.Proofs.YtagplldaooipmaaGreatDoor
open Go.RowKit
theorem rpCells_len (p:Rp) (v:Value):(rpCells p v).length=7:=rfl
theorem rpCells_one (p:Rp) (A:Option Addr) (n c:Nat):∀ u ∈ rpCells p (.slice A n c),u.oneCell'=true:=by
 intro u hu
 simp only [rpCells,List.mem_cons,List.not_mem_nil,or_false] at hu
 rcases hu with rfl | rfl | rfl | rfl | rfl | rfl | rfl <;> rfl
def RpOwn (w:World) (base:Nat) (v:Value) (l:List Rp) (vs:List Value):Prop:=
 vs.length=l.length∧w.ownsRow base 56 7 v l.length (rowV rpCells l vs)∧(∀ i (hi:i < l.length),ArgRow w (fun g=>base ≤ g∧g < w.heap.size∧v.ownBlock ≠ some g) (vs.getD i nilV) l[i].args)
theorem RpOwn.nil (w:World) (base:Nat):RpOwn w base nilV [] []:=⟨rfl,⟨by simp [rowV],.inl ⟨rfl,rfl⟩⟩,fun i hi=>absurd hi (by simp)⟩
theorem RpOwn.below {w w':World} {base:Nat} {v:Value} {l:List Rp} {vs:List Value} (h:RpOwn w base v l vs) (hb:Below w.heap.size w w'):RpOwn w' base v l vs:=
 ⟨h.1,own_below h.2.1 hb,fun i hi=>(h.2.2 i hi).keep (fun g hg=>hb.block g hg.2.1) (fun _g hg=>⟨hg.1,Nat.lt_of_lt_of_le hg.2.1 hb.size,hg.2.2⟩)⟩
theorem RpOwn.snoc {w w0 w':World} {base:Nat} {v v' u:Value} {l:List Rp} {p:Rp} {vs:List Value} (h:RpOwn w base v l vs) (hbase:base ≤ w.heap.size) (h0:Below w.heap.size w w0)
  (hu:ArgRow w0 (fun g=>w.heap.size ≤ g∧g < w0.heap.size) u p.args) (hown:w'.ownsRow base 56 7 v' (l.length + 1) (rowV rpCells l vs ++ rpCells p u)) (hg:w0.grownBy w' v.ownBlock) (hv:v'.ownBlock=v.ownBlock ∨ v'.ownBlock=some w0.heap.size) :
  RpOwn w' base v' (l ++ [p]) (vs ++ [u]):=by
 obtain ⟨h1,h2,h3⟩:=h
 have hvlt:∀ g,v.ownBlock=some g → g < w.heap.size:=fun g hg=>(h2.lt g hg).2
 have hS:∀ g,(base ≤ g∧g < w0.heap.size∧v.ownBlock ≠ some g) → (base ≤ g∧g < w'.heap.size∧v'.ownBlock ≠ some g):=by
  rintro g ⟨g1,g2,g3⟩
  refine ⟨g1,Nat.lt_of_lt_of_le g2 hg.size,?_⟩
  rcases hv with hv | hv <;> rw [hv]
  ·exact g3
  ·intro h;injection h with h;omega
 have hK:∀ g,(base ≤ g∧g < w0.heap.size∧v.ownBlock ≠ some g) → w'.heap[g]? = w0.heap[g]?:=fun g hp=>hg.block g hp.2.1 (fun h=>hp.2.2 h.symm)
 refine ⟨by simp [h1],by rw [rowV_snoc l p u vs h1];simpa using hown,fun i hi=>?_⟩
 by_cases hil:i < l.length
 ·rw [getD_app_left (by omega),List.getElem_append_left hil]
  exact ((h3 i hil).keep (fun g hg=>h0.block g hg.2.1) (fun g hg=>⟨hg.1,Nat.lt_of_lt_of_le hg.2.1 h0.size,hg.2.2⟩)).keep hK hS
 ·have hie:i=vs.length:=by simp at hi;omega
  subst hie
  have e1:(l ++ [p])[vs.length]'hi=p:=by simp [h1]
  rw [getD_app_last,e1]
  exact hu.keep (S':=fun g=>base ≤ g∧g < w'.heap.size∧v'.ownBlock ≠ some g) (fun g hg'=>hK g ⟨by omega,hg'.2,fun hh=>by have:=hvlt g hh;omega⟩) (fun g hg'=>hS g ⟨by omega,hg'.2,fun hh=>by have:=hvlt g hh;omega⟩)
theorem RpOwn.get {w:World} {base g c n:Nat} {l:List Rp} {vs:List Value} (h:RpOwn w base (.slice (some ⟨g,0,none⟩) n c) l vs) (k:Nat) (hk:k < l.length) :
  ∀ j u,(rpCells l[k] (vs.getD k nilV))[j]? = some u → w.cell? ⟨g,k * 7 + j,none⟩=some u:=by
 intro j u hu
 obtain ⟨A,c',h1,_,_,h2⟩:=own_slice h.2.1 (by omega)
 obtain ⟨g',h3,_,_,_,h4⟩:=h2 (by omega)
 subst h3
 injection h1 with h1 _ _
 simp only [Option.some.injEq,Addr.mk.injEq,and_true] at h1
 subst h1
 exact h4 _ u (rowV_get rpCells_len l vs h.1 k hk j u hu)
end Go.Proofs.YtagplldaooipmaaGreatDoor
/- The reference's layer 17: hex, Label, has, labels. -/
namespace Go.Proofs.YtagplldaooipmaaGreatDoor
open Go.RowKit
def hexS (n:Nat):Nat → List UInt8
 | 0=>[]
 | k + 1=>hexL (n / 16 ^ k) :: hexS n k
theorem label_hexS (n:Nat):labelD n=76 :: hexS n 4:=by
 unfold labelD
 simp only [hexS,show (16:Nat) ^ 3=4096 from rfl,show (16:Nat) ^ 2=256 from rfl,show (16:Nat) ^ 1=16 from rfl,show (16:Nat) ^ 0=1 from rfl,Nat.div_one]
theorem hexS_len (n:Nat):∀ k,(hexS n k).length=k
 | 0=>rfl
 | k + 1=>by simp [hexS,hexS_len n k]
set_option maxHeartbeats 2000000 in
theorem refhex_any (n:Nat) (hn:n < 65536) (w:World):Calls Tryz.prog 40 #[.int .i64 (n:Int)] w fun e w'=>e=.returned (.string ⟨(hexS n 4).toArray⟩)∧Below w.heap.size w w':=by
 have hcv:=conv_one
 go_enter Tryz.func40, Tryz.ntmps40
 go_wp2_with fail
 go_loopw [0,3,4] (fun m s i wr=>∃ k m':Nat,k ≤ 4∧i=.int .i64 k∧m=.int .i64 m'∧m'=n / 16 ^ k∧s=.string ⟨(hexS n k).toArray⟩∧Below w.heap.size w wr) (fun _ _ i _=>4 - (intOf i).toNat)
 case atStart=>exact ⟨0,n,by omega,rfl,rfl,by simp,rfl,Below.refl _ _⟩
 case round=>
  obtain ⟨k,m',hk,rfl,rfl,hm,rfl,hb⟩:=hrel
  have hm2:m' < 65536:=by rw [hm];exact Nat.lt_of_le_of_lt (Nat.div_le_self _ _) hn
  have HM:=Lib.hid hm
  have hsz:=hb.size
  by_cases hlt:k < 4
  ·have HS:Hid (hexS n (k + 1)=hexL m' :: hexS n k):=Lib.hid (by rw [hm];rfl)
   have HN:Hid (m' / 16=n / 16 ^ (k + 1)):=Lib.hid (by rw [hm,Nat.div_div_eq_div_mul,Nat.pow_succ])
   clear hm
   have hlt':(k:Int) < 4:=by omega
   have hm0:(0:Int) ≤ (m':Int):=by omega
   by_cases h9:9 < m' % 16
   ·have h9':(9:Int) < (m':Int) % 16:=by omega
    have H5:Hid (byteOf (65 + (m':Int) % 16 - 10)=hexL m'):=Lib.hid (by unfold byteOf hexL;rw [if_neg (by omega)];congr 1;omega)
    have hsl:(hexS n k).length ≤ 4:=by rw [hexS_len];omega
    generalize hexS n k=s at *
    go_wp2_with fail
    go_roundw
    case rel=>exact ⟨k + 1,m' / 16,by omega,by go_num,by go_num,HN.out,by rw [HS.out,← H5.out],hb.alloc hsz _⟩
    case measure=>simp [intOf];omega
   ·have h9':(m':Int) % 16 ≤ 9:=by omega
    have H5:Hid (byteOf (48 + (m':Int) % 16)=hexL m'):=Lib.hid (by unfold byteOf hexL;rw [if_pos (by omega)];congr 1)
    have hsl:(hexS n k).length ≤ 4:=by rw [hexS_len];omega
    generalize hexS n k=s at *
    go_wp2_with fail
    go_roundw
    case rel=>exact ⟨k + 1,m' / 16,by omega,by go_num,by go_num,HN.out,by rw [HS.out,← H5.out],hb.alloc hsz _⟩
    case measure=>simp [intOf];omega
  ·obtain rfl:k=4:=by omega
   clear hm
   go_wp2_with fail
   go_ret
   exact ⟨rfl,hb⟩
theorem refLabel_any (n:Nat) (hn:n < 65536) (w:World):Calls Tryz.prog 21 #[.int .i64 (n:Int)] w fun e w'=>e=.returned (.string ⟨(labelD n).toArray⟩)∧Below w.heap.size w w':=by
 have HX:=Lib.hid (fun W=>refhex_any n hn W)
 have HL:=Lib.hid (label_hexS n)
 have hsl:(hexS n 4).length ≤ 4:=by rw [hexS_len];omega
 generalize hexS n 4=s at *
 generalize labelD n=t at *
 go_enter Tryz.func21, Tryz.ntmps21
 go_wp2_with fail
 refine (HX.out _).mono ?_
 rintro e w1 ⟨rfl,hb⟩
 go_wp2_with fail
 go_ret
 obtain rfl:=HL.out
 exact ⟨rfl,hb⟩
def natV (n:Nat):Value:=.int .i64 (n:Int)
set_option maxHeartbeats 1000000 in
theorem refhas_any (l:List Nat) (x:Nat) (v:Value) (w:World) (hv:Rd w w.heap.size v l.length (l.map natV)) (hl:l.length ≤ 1000000) :
  Calls Tryz.prog 20 #[v,.int .i64 (x:Int)] w fun e w'=>e=.returned (.bool (decide (x ∈ l)))∧w=w':=by
 obtain ⟨A,c,rfl,hc,h3⟩:=hv
 have HG:=Lib.hid h3
 clear h3
 go_enter Tryz.func20, Tryz.ntmps20
 go_wp2_with fail
 go_loopw [5] (fun i wr=>∃ k:Nat,k ≤ l.length∧i=.int .i64 k∧wr=w∧decide (x ∈ l)=decide (x ∈ l.drop k)) (fun i _=>l.length - (intOf i).toNat)
 case atStart=>exact ⟨0,Nat.zero_le _,rfl,rfl,rfl⟩
 case round=>
  obtain ⟨k,hk,rfl,rfl,hd⟩:=hrel
  have HD:=Lib.hid hd
  clear hd
  by_cases hlt:k < l.length
  ·obtain ⟨g,o,rfl,hg,hcell⟩:=HG.out (by omega)
   have ck:=hcell k (natV l[k]) (by simp [hlt])
   have HDR:Hid (l.drop k=l[k] :: l.drop (k + 1)):=Lib.hid (List.drop_eq_getElem_cons hlt)
   clear hcell
   unfold natV at ck
   have i0:(0:Int) ≤ (k:Int):=by omega
   have i1:(k:Int) < (l.length:Int):=by omega
   by_cases hy:l[k]=x
   ·have e1:(((l[k]:Nat):Int) == (x:Int))=true:=by rw [beq_iff_eq,hy]
    have HZ:Hid (decide (x ∈ l)=true):=Lib.hid (by rw [HD.out,HDR.out,hy];simp)
    clear HD HDR hy
    generalize l[k]=y at *
    go_wp2_with fail
    go_ret
    exact ⟨ret_bool HZ.out.symm,rfl⟩
   ·have e1:(((l[k]:Nat):Int) == (x:Int))=false:=by rw [beq_eq_false_iff_ne];omega
    have HZ:Hid (decide (x ∈ l)=decide (x ∈ l.drop (k + 1))):=Lib.hid (by rw [HD.out,HDR.out,decide_eq_decide,List.mem_cons];exact ⟨fun h=>h.resolve_left (fun e=>hy e.symm),.inr⟩)
    clear HD HDR hy
    generalize l[k]=y at *
    go_wp2_with fail
    go_roundw
    case rel=>exact ⟨k + 1,by omega,by go_num,by first | rfl | trivial,HZ.out⟩
    case measure=>simp [intOf];omega
  ·obtain rfl:k=l.length:=by omega
   have HZ:Hid (decide (x ∈ l)=false):=Lib.hid (by rw [HD.out];simp)
   go_wp2_with fail
   go_ret
   exact ⟨ret_bool HZ.out.symm,by first | rfl | trivial⟩
theorem rp_cells {w2 wr:World} {base G c n:Nat} {l:List Rp} {vs:List Value} (h:RpOwn w2 base (.slice (some ⟨G,0,none⟩) n c) l vs) (k:Nat) (hk:k < l.length) (hb:wr.heap[G]? = w2.heap[G]?) :
  ∃ aA ac,vs.getD k nilV=.slice aA l[k].args.length ac∧l[k].args.length ≤ ac∧l[k].args.length ≤ maxLen∧wr.cell? ⟨G,k * 7,none⟩=some (.int .i64 (l[k].pl:Int))∧wr.cell? ⟨G,k * 7 + 1,none⟩=some (.int .i64 (l[k].size:Int))∧wr.cell? ⟨G,k * 7 + 2,none⟩=some (.string ⟨l[k].op.toArray⟩)∧wr.cell? ⟨G,k * 7 + 3,none⟩=some (.slice aA l[k].args.length ac)∧wr.cell? ⟨G,k * 7 + 4,none⟩=some (.bool l[k].jumps)∧wr.cell? ⟨G,k * 7 + 5,none⟩=some (.int .i64 (l[k].tn:Int))∧wr.cell? ⟨G,k * 7 + 6,none⟩=some (.int .u8 (l[k].b:Int)):=by
 have hq:∀ j u,(rpCells l[k] (vs.getD k nilV))[j]? = some u → wr.cell? ⟨G,k * 7 + j,none⟩=some u:=fun j u hu=>(World.cell?_of_block hb).trans (h.get k hk j u hu)
 obtain ⟨aA,ac,h1,h2,h3⟩:=(h.2.2 k hk).form
 rw [h1] at hq
 exact ⟨aA,ac,h1,h2,h3,hq 0 _ rfl,hq 1 _ rfl,hq 2 _ rfl,hq 3 _ rfl,hq 4 _ rfl,hq 5 _ rfl,hq 6 _ rfl⟩
theorem info_int:(Tryz.prog.info? 3).map (fun i=>(i.zero,i.size,i.bytes))=some (some (.int .i64 0),1,8):=by kernel_rfl
theorem any_snocR (l:List Rp) (f:Rp → Bool) (m:Nat) (h:m < l.length):(l.take (m + 1)).any f=((l.take m).any f || f l[m]):=by
 rw [List.take_succ_eq_append_getElem h,List.any_append];simp
set_option maxHeartbeats 16000000 in
set_option maxRecDepth 100000 in
theorem reflabels_any (l:List Rp) (vs:List Value) (v:Value) (base:Nat) (w:World) (h:RpOwn w base v l vs) (hl:l.length ≤ 1000000) :
  Calls Tryz.prog 18 #[v] w fun e w'=>∃ u,e=.returned u∧w'.ownsRow w.heap.size 3 1 u (labelsR l).length ((labelsR l).map natV)∧Below w.heap.size w w':=by
 obtain ⟨vA,vc,rfl,hvc,hvm,hrow⟩:=own_slice h.2.1 (by omega)
 have HLR:Hid (0 < l.length → ∃ G,vA=some ⟨G,0,none⟩∧G < w.heap.size):=Lib.hid (fun h0=>by obtain ⟨G,a1,a2,a3,_⟩:=hrow h0;exact ⟨G,a1,a3⟩)
 have P2:=Lib.hid h
 clear h hrow hvm
 go_enter Tryz.func18, Tryz.ntmps18
 go_wp2_with fail
 go_loopw [3,4] (fun u i wr=>∃ (k:Nat) (o:List Nat),k ≤ l.length∧i=.int .i64 k∧labelsK l (l.drop k) o=labelsR l∧o.length ≤ 1000∧wr.ownsRow w.heap.size 3 1 u o.length (o.map natV)∧Below w.heap.size w wr) (fun _ i _=>l.length - (intOf i).toNat)
 case atStart=>exact ⟨0,[],Nat.zero_le _,rfl,rfl,by simp,World.ownsRow_nil _ _ _ _,Below.refl _ _⟩
 case round=>
  obtain ⟨k,o,hk,rfl,hlk,ho,hown,hbw⟩:=hrel
  obtain ⟨uA,uc,rfl,huc,hum,_⟩:=own_slice hown (by omega)
  have HLK:=Lib.hid hlk
  have HOW:=Lib.hid hown
  have HBW:=Lib.hid hbw
  have hsz:=hbw.size
  clear hlk hown hbw hum
  by_cases hlt:k < l.length
  ·have hlt':(k:Int) < (l.length:Int):=by omega
   by_cases h1k:o.length < 1000
   ·have h1k':(o.length:Int) < 1000:=by omega
    obtain ⟨G,rfl,hG⟩:=HLR.out (by omega)
    obtain ⟨aA,ac,_,_,_,c0,c1,c2,c3,c4,c5,c6⟩:=rp_cells P2.out k hlt (HBW.out.block G hG)
    have HST:Hid (labelsK l (l.drop (k + 1)) (if l.any (fun q=>goesR q l[k].pl) then o ++ [l[k].pl] else o)=labelsR l):=Lib.hid (by
     have e:=HLK.out
     rw [List.drop_eq_getElem_cons hlt,labelsK,if_neg (by omega)] at e
     exact e)
    clear c1 c2 c3 c4 c5 c6 HLK
    generalize l[k].pl=x at *
    go_wp2_with fail
    go_loopw [5,6] (fun b j wx=>∃ (m n:Nat),m ≤ l.length∧j=.int .i64 m∧b=.bool ((l.take m).any (fun q=>goesR q x))∧wx=wr.drewN n) (fun _ j _=>l.length - (intOf j).toNat)
    case atStart=>exact ⟨0,0,Nat.zero_le _,rfl,rfl,rfl⟩
    case round=>
     obtain ⟨m,n,hm,rfl,rfl,rfl⟩:=hrel
     cases hany:(l.take m).any (fun q=>goesR q x) with
     | true=>
      have HA:Hid (l.any (fun q=>goesR q x)=true):=Lib.hid (by
       rw [List.any_eq_true] at hany ⊢
       obtain ⟨q,h1,h2⟩:=hany
       exact ⟨q,List.mem_of_mem_take h1,h2⟩)
      have OW:=Lib.hid (own_below HOW.out (below_dn (Below.refl _ wr) n))
      have BW:=Lib.hid (below_dn HBW.out n)
      have c0':(wr.drewN n).cell? ⟨G,k * 7,none⟩=some (.int .i64 (x:Int)):=c0
      have hsz':w.heap.size ≤ (wr.drewN n).heap.size:=hsz
      clear hany
      generalize wr.drewN n=W at *
      have O8:=Lib.hid (OW.out.alloc (.cells #[.int .i64 (x:Int)] 3))
      have N8:=Lib.hid (rd_new W W.heap.size rfl [.int .i64 (x:Int)] 3)
      have B8:=Lib.hid (BW.out.alloc BW.out.size (.cells #[.int .i64 (x:Int)] 3))
      have hb8:w.heap.size ≤ (W.alloc (.cells #[.int .i64 (x:Int)] 3)).heap.size:=B8.out.size
      by_cases hml:m < l.length
      ·have hml':(m:Int) < (l.length:Int):=by omega
       go_wp2_with (at_builtin;go_loud (refine wpList_append_to _ rfl (.tmp 55) (.tmp 61) 52 rfl w.heap.size 3 _ 1 8 Tryz.underlying52 info_int rfl (by omega) O8.out rfl N8.out rfl rfl (fun u hu=>by rw [List.mem_singleton.1 hu];rfl) (by omega) (by omega) hb8 ?_;intro v9 w9 hown9 hbel9 hg9 hv9;obtain ⟨A9,c9,rfl,hc9,hm9,_⟩:=own_slice hown9 (by omega);have O9:=Lib.hid hown9;have BB:=Lib.hid (B8.out.trans hbel9);clear hown9 hbel9 hg9 hv9 O8 N8 B8))
       go_wp2_with fail
       go_roundw
       case rel=>exact ⟨k + 1,o ++ [x],by omega,by go_num,by have e:=HST.out;rw [if_pos HA.out] at e;exact e,by simp;omega,by have e:=O9.out;simpa [natV] using e,BB.out⟩
       case measure=>simp [intOf];omega
      ·have hml':decide ((m:Int) < (l.length:Int))=false:=by simp;omega
       go_wp2_with (at_builtin;go_loud (refine wpList_append_to _ rfl (.tmp 55) (.tmp 61) 52 rfl w.heap.size 3 _ 1 8 Tryz.underlying52 info_int rfl (by omega) O8.out rfl N8.out rfl rfl (fun u hu=>by rw [List.mem_singleton.1 hu];rfl) (by omega) (by omega) hb8 ?_;intro v9 w9 hown9 hbel9 hg9 hv9;obtain ⟨A9,c9,rfl,hc9,hm9,_⟩:=own_slice hown9 (by omega);have O9:=Lib.hid hown9;have BB:=Lib.hid (B8.out.trans hbel9);clear hown9 hbel9 hg9 hv9 O8 N8 B8))
       go_wp2_with fail
       go_roundw
       case rel=>exact ⟨k + 1,o ++ [x],by omega,by go_num,by have e:=HST.out;rw [if_pos HA.out] at e;exact e,by simp;omega,by have e:=O9.out;simpa [natV] using e,BB.out⟩
       case measure=>simp [intOf];omega
     | false=>
      by_cases hml:m < l.length
      ·have hml':(m:Int) < (l.length:Int):=by omega
       obtain ⟨aA2,ac2,_,_,_,d0,d1,d2,d3,d4,d5,d6⟩:=rp_cells P2.out m hml (HBW.out.block G hG)
       have HAN:Hid ((l.take (m + 1)).any (fun q=>goesR q x)=goesR l[m] x):=Lib.hid (by rw [any_snocR _ _ _ hml,hany];rfl)
       have HGO:Hid (goesR l[m] x=(decide (l[m].op ≠ []) && (l[m].jumps && decide (l[m].tn=x)))):=Lib.hid rfl
       have hm2:(m:Int) * 7 ≤ 7000000:=by omega
       clear hany d0 d1 d3 d6
       have i0:(0:Int) ≤ (m:Int):=by omega
       have i1:(0:Int) ≤ (k:Int):=by omega
       generalize goesR l[m] x=go at *
       generalize l[m].op=op at *
       generalize l[m].jumps=jm at *
       generalize l[m].tn=tn at *
       have hop:op = [] ∨ op ≠ []:=by by_cases h:op = [];exact .inl h;exact .inr h
       rcases hop with rfl | hop
       ·have HZ:Hid (go=false):=Lib.hid (by rw [HGO.out];simp)
        clear HGO
        go_wp2_with fail
        go_quiet (fail)
        go_wp2_with fail
        go_roundw
        case rel=>exact ⟨m + 1,_,by omega,by go_num,by rw [HAN.out,HZ.out],by first | rfl | rw [World.drewN_drewN]⟩
        case measure=>simp [intOf];omega
       ·have e1:op.isEmpty=false:=by simpa using hop
        cases jm with
        | false=>
         have HZ:Hid (go=false):=Lib.hid (by rw [HGO.out];simp)
         clear HGO hop
         go_wp2_with fail
         go_quiet (fail)
         go_wp2_with fail
         go_roundw
         case rel=>exact ⟨m + 1,_,by omega,by go_num,by rw [HAN.out,HZ.out],by first | rfl | rw [World.drewN_drewN]⟩
         case measure=>simp [intOf];omega
        | true=>
         have HZ:Hid (go=decide (tn=x)):=Lib.hid (by rw [HGO.out];simp [hop])
         have e2:((tn:Int) == (x:Int))=decide (tn=x):=by rw [Bool.eq_iff_iff];simp;omega
         clear HGO hop
         generalize decide (tn=x)=dq at *
         go_wp2_with fail
         go_quiet (fail)
         go_wp2_with fail
         go_roundw
         case rel=>exact ⟨m + 1,_,by omega,by go_num,by rw [HAN.out,HZ.out],by first | rfl | rw [World.drewN_drewN]⟩
         case measure=>simp [intOf];omega
      ·obtain rfl:m=l.length:=by omega
       have HA:Hid (l.any (fun q=>goesR q x)=false):=Lib.hid (by rw [List.take_length] at hany;exact hany)
       have OW:=Lib.hid (own_below HOW.out (below_dn (Below.refl _ wr) n))
       have BW:=Lib.hid (below_dn HBW.out n)
       clear hany
       generalize wr.drewN n=W at *
       go_wp2_with fail
       go_roundw
       case rel=>exact ⟨k + 1,o,by omega,by go_num,by have e:=HST.out;rw [HA.out] at e;exact e,ho,OW.out,BW.out⟩
       case measure=>simp [intOf];omega
   ·have h1k':decide ((o.length:Int) < 1000)=false:=by simp;omega
    have HF:Hid (o=labelsR l):=Lib.hid (by
     have e:=HLK.out
     rw [List.drop_eq_getElem_cons hlt,labelsK,if_pos (by omega)] at e
     exact e)
    go_wp2_with fail
    go_ret
    obtain rfl:=HF.out
    exact ⟨_,rfl,HOW.out,HBW.out⟩
  ·obtain rfl:k=l.length:=by omega
   have HF:Hid (o=labelsR l):=Lib.hid (by
    have e:=HLK.out
    rw [List.drop_length] at e
    exact e)
   go_wp2_with fail
   go_ret
   obtain rfl:=HF.out
   exact ⟨_,rfl,HOW.out,HBW.out⟩
end Go.Proofs.YtagplldaooipmaaGreatDoor
