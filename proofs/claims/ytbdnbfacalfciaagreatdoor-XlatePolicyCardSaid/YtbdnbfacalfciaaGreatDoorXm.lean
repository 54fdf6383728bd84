/- Xm. -/
import Derived.Test.YtbdnbfacalfciaaGreatDoorUa
import Derived.Test.YtbdnbfacalfciaaGreatDoorKa
import Derived.Test.YtbdnbfacalfciaaGreatDoorKd
import Derived.Lib.SlBytesConst
import Derived.Handy
import Derived.RegionTactic
import Derived.Deep.QuietTactic
import Derived.BigQuiet
import Derived.Test.YtbdnbfacalfciaaGreatDoorLs
import Derived.Laws.OwnMore
import Derived.Test.YtbdnbfacalfciaaGreatDoorXb
import Derived.Test.YtbdnbfacalfciaaGreatDoorXg
import Derived.Maps.OwnOps
import Derived.Maps.OwnSet
import Derived.Maps.Views
namespace Go.Proofs.YtbdnbfacalfciaaGreatDoor
set_option maxRecDepth 100000
set_option maxHeartbeats 4000000
open Go.RowKit
def hexS (n:Nat):Nat->List UInt8
 | 0=>[]
 | k+1=>hexL (n / 16 ^ k) :: hexS n k
theorem hexS_len (n:Nat):∀ k,(hexS n k).length=k
 | 0=>rfl
 | k+1=>by simp [hexS,hexS_len n k]
theorem label_hexS (n:Nat):labelD n=76 :: hexS n 4:=by
 unfold labelD
 simp only [hexS,show (16:Nat) ^ 3=4096 from rfl,show (16:Nat) ^ 2=256 from rfl,show (16:Nat) ^ 1=16 from rfl,show (16:Nat) ^ 0=1 from rfl,Nat.div_one]
theorem u16_and15 (n:Int):bits .and .u16 n 15=n % 16:=by
 have h15:(BitVec.ofInt 16 15).toNat=2 ^ 4 - 1:=by decide
 have key:(BitVec.ofInt 16 n &&& BitVec.ofInt 16 15).toNat=(n % ((2 ^ 16:Nat):Int)).toNat % 2 ^ 4:=by
  rw [BitVec.toNat_and,BitVec.toNat_ofInt,h15,Nat.and_two_pow_sub_one_eq_mod]
 show IntKind.u16.wrap ((BitVec.ofInt 16 n &&& BitVec.ofInt 16 15).toNat:Nat)=n % 16
 rw [key,IntKind.wrap_u16]
 omega
abbrev hexDigits:List UInt8:=[48,49,50,51,52,53,54,55,56,57,65,66,67,68,69,70]
theorem hex_at (k:Nat) (p:k % 16<hexDigits.length):hexDigits[k % 16]'p=hexL k:=by
 have h:∀ j:Fin 16,hexDigits[j.val]=UInt8.ofNat (if j.val % 16<10 then 48+j.val % 16 else 55+j.val % 16):=by decide
 have:=h ⟨k % 16,Nat.mod_lt _ (by decide)⟩
 simp only [Nat.mod_mod] at this
 exact this
theorem xlabel_any (n:Nat) (w:World):Calls Tryz.prog 5 #[.int .u16 (n:Nat)] w fun e w'=>e=.returned (.string ⟨(labelD n).toArray⟩)/\Below w.heap.size w w':=by
 have m0:=u16_and15 (n:Int)
 have m1:=u16_and15 ((n:Int) / 16)
 have m2:=u16_and15 ((n:Int) / 256)
 have m3:=u16_and15 ((n:Int) / 4096)
 have hd0:=hex_at n
 have hd1:=hex_at (n / 16)
 have hd2:=hex_at (n / 256)
 have hd3:=hex_at (n / 4096)
 have HL:Hid (labelD n = [76,hexL (n / 4096),hexL (n / 256),hexL (n / 16),hexL n]):=LH rfl
 generalize labelD n=res at *
 go_enter Tryz.func5, Tryz.ntmps5
 go_wp2_with fail
 go_loopw [3,4] (fun s i wr=>∃ k:Nat,k<=4/\i=.int .i64 (12 - 4 * (k:Int))/\wr.ownsRow w.heap.size 5 1 s (k+1) (([76,hexL (n / 4096),hexL (n / 256),hexL (n / 16),hexL n].take (k+1)).map bv)/\Below w.heap.size w wr) (fun _ i _=>(intOf i+4).toNat)
 case atStart=>exact ⟨0,by omega,rfl,⟨by simp,.inr ⟨w.heap.size,1,_,rfl,Nat.le_refl _,heap_alloc_new _ _,by simp,by decide,rfl,rfl⟩⟩,(Below.refl _ _).alloc (Nat.le_refl _) _⟩
 case round=>
  obtain ⟨k,hk,rfl,hown,hb⟩:=hrel
  have hsz:=hb.size
  have HO:=LH hown
  clear hown
  have hc:k=0∨k=1∨k=2∨k=3∨k=4:=by omega
  clear hk
  rcases hc with rfl | rfl | rfl | rfl | rfl
  ·go_wp2_with (at_builtin;refine append_byte wr rfl _ _ rfl w.heap.size HO.out rfl _ (hexL (n / 4096)) rfl rfl (by omega) hsz ?_;intro v1 w1 hown1 hb1;have B1:=LH (hb.trans hb1);have O1:=LH hown1;clear hown1 hb1 HO)
   go_roundw
   case rel=>exact ⟨1,by omega,by go_num,O1.out,B1.out⟩
   case measure=>simp [intOf]
  ·go_wp2_with (at_builtin;refine append_byte wr rfl _ _ rfl w.heap.size HO.out rfl _ (hexL (n / 256)) rfl rfl (by omega) hsz ?_;intro v1 w1 hown1 hb1;have B1:=LH (hb.trans hb1);have O1:=LH hown1;clear hown1 hb1 HO)
   go_roundw
   case rel=>exact ⟨2,by omega,by go_num,O1.out,B1.out⟩
   case measure=>simp [intOf]
  ·go_wp2_with (at_builtin;refine append_byte wr rfl _ _ rfl w.heap.size HO.out rfl _ (hexL (n / 16)) rfl rfl (by omega) hsz ?_;intro v1 w1 hown1 hb1;have B1:=LH (hb.trans hb1);have O1:=LH hown1;clear hown1 hb1 HO)
   go_roundw
   case rel=>exact ⟨3,by omega,by go_num,O1.out,B1.out⟩
   case measure=>simp [intOf]
  ·go_wp2_with (at_builtin;refine append_byte wr rfl _ _ rfl w.heap.size HO.out rfl _ (hexL (n)) rfl rfl (by omega) hsz ?_;intro v1 w1 hown1 hb1;have B1:=LH (hb.trans hb1);have O1:=LH hown1;clear hown1 hb1 HO)
   go_roundw
   case rel=>exact ⟨4,by omega,by go_num,O1.out,B1.out⟩
   case measure=>simp [intOf]
  ·obtain ⟨g,cap,pad,hv,hg0,hg,hcap⟩:=own_block HO.out (by omega)
   have hcv:=conv_block (P:=Tryz.prog) wr 75 9 5 g cap 5 [76,hexL (n / 4096),hexL (n / 256),hexL (n / 16),hexL n] pad (0,0) Tryz.underlying75 Tryz.underlying5 Tryz.underlying9 rfl hg
   rw [hv]
   clear HO hg hcap hg0 hv
   go_wp2_with fail
   go_ret
   obtain rfl:=HL.out
   exact ⟨rfl,hb⟩
theorem refhex_any (n:Nat) (hn:n<65536) (w:World):Calls Tryz.prog 23 #[.int .i64 (n:Int)] w fun e w'=>e=.returned (.string ⟨(hexS n 4).toArray⟩)/\Below w.heap.size w w':=by
 have hcv:=conv_one
 go_enter Tryz.func23, Tryz.ntmps23
 go_wp2_with fail
 go_loopw [0,3,4] (fun m s i wr=>∃ k m':Nat,k<=4/\i=.int .i64 k/\m=.int .i64 m'/\m'=n / 16 ^ k/\s=.string ⟨(hexS n k).toArray⟩/\Below w.heap.size w wr) (fun _ _ i _=>4 - (intOf i).toNat)
 case atStart=>exact ⟨0,n,by omega,rfl,rfl,by simp,rfl,Below.refl _ _⟩
 case round=>
  obtain ⟨k,m',hk,rfl,rfl,hm,rfl,hb⟩:=hrel
  have hm2:m'<65536:=by rw [hm];exact Nat.lt_of_le_of_lt (Nat.div_le_self _ _) hn
  have HM:=LH hm
  have hsz:=hb.size
  by_cases hlt:k<4
  ·have HS:Hid (hexS n (k+1)=hexL m' :: hexS n k):=LH (by rw [hm];rfl)
   have HN:Hid (m' / 16=n / 16 ^ (k+1)):=LH (by rw [hm,Nat.div_div_eq_div_mul,Nat.pow_succ])
   clear hm
   have hlt':(k:Int)<4:=by omega
   have hm0:(0:Int)<=(m':Int):=by omega
   by_cases h9:9<m' % 16
   ·have h9':(9:Int)<(m':Int) % 16:=by omega
    have H5:Hid (byteOf (65+(m':Int) % 16 - 10)=hexL m'):=LH (by unfold byteOf hexL;rw [if_neg (by omega)];congr 1;omega)
    have hsl:(hexS n k).length<=4:=by rw [hexS_len];omega
    generalize hexS n k=s at *
    go_wp2_with fail
    go_roundw
    case rel=>exact ⟨k+1,m' / 16,by omega,by go_num,by go_num,HN.out,by rw [HS.out,← H5.out],hb.alloc hsz _⟩
    case measure=>simp [intOf];omega
   ·have h9':(m':Int) % 16<=9:=by omega
    have H5:Hid (byteOf (48+(m':Int) % 16)=hexL m'):=LH (by unfold byteOf hexL;rw [if_pos (by omega)];congr 1)
    have hsl:(hexS n k).length<=4:=by rw [hexS_len];omega
    generalize hexS n k=s at *
    go_wp2_with fail
    go_roundw
    case rel=>exact ⟨k+1,m' / 16,by omega,by go_num,by go_num,HN.out,by rw [HS.out,← H5.out],hb.alloc hsz _⟩
    case measure=>simp [intOf];omega
  ·obtain rfl:k=4:=by omega
   clear hm
   go_wp2_with fail
   go_ret
   exact ⟨rfl,hb⟩
theorem refLabel_any (n:Nat) (hn:n<65536) (w:World):Calls Tryz.prog 6 #[.int .i64 (n:Int)] w fun e w'=>e=.returned (.string ⟨(labelD n).toArray⟩)/\Below w.heap.size w w':=by
 have HX:=LH (fun W=>refhex_any n hn W)
 have HL:=LH (label_hexS n)
 have hsl:(hexS n 4).length<=4:=by rw [hexS_len];omega
 generalize hexS n 4=s at *
 generalize labelD n=t at *
 go_enter Tryz.func6, Tryz.ntmps6
 go_wp2_with fail
 refine (HX.out _).mono ?_
 rintro e w1 ⟨rfl,hb⟩
 go_wp2_with fail
 go_ret
 obtain rfl:=HL.out
 exact ⟨rfl,hb⟩
abbrev nilV:Value:=.slice none 0 0
def rowA (l:List Ar):List Value:=l.flatMap (fun a=>arCells a nilV)
theorem rowA_get (l:List Ar):∀ i (hi:i<l.length) j u,(arCells l[i] nilV)[j]? = some u->(rowA l)[i * 8+j]? = some u:=by
 induction l with
 | nil=>intro i hi;simp at hi
 | cons a l ih=>
  intro i hi j u hu
  cases i with
  | zero=>
   have hj:j<(arCells a nilV).length:=(List.getElem?_eq_some_iff.1 hu).1
   simp only [rowA,List.flatMap_cons,Nat.zero_mul,Nat.zero_add]
   rw [List.getElem?_append_left hj]
   exact hu
  | succ i=>
   have h1:=ih i (by simpa using hi) j u hu
   simp only [rowA,List.flatMap_cons] at h1 ⊢
   rw [List.getElem?_append_right (by show 8<=_;omega),show (i+1) * 8+j - (arCells a nilV).length=i * 8+j by show (i+1) * 8+j - 8=_;omega]
   exact h1
theorem arAt_new (w:World) (l:List Ar) (T:TypeId) (hl:l.length<=1000) (h0:∀ a∈l,a.e.sub = []):ArAt (w.alloc (.cells (rowA l).toArray T)) (fun g=>g=w.heap.size) (.slice (some ⟨w.heap.size,0,none⟩) l.length l.length) l:=by
 have hn:=heap_alloc_new w (.cells (rowA l).toArray T)
 refine ⟨_,_,fun _=>nilV,rfl,Nat.le_refl _,by unfold maxLen;omega,fun _=>⟨w.heap.size,0,rfl,rfl,fun i hi j u hu=>?_⟩,fun i hi=>?_⟩
 ·rw [Nat.zero_add,coh hn,List.getElem?_toArray]
  exact rowA_get l i hi j u hu
 ·rw [h0 _ (List.getElem_mem hi)]
  exact SubAt.nil _ _
theorem xword_any (s:List UInt8) (w:World):Calls Tryz.prog 89 #[.string ⟨s.toArray⟩] w fun e w'=>e=.returned (arV (wordA s) nilV)/\Below w.heap.size w w':=by
 go_enter Tryz.func89, Tryz.ntmps89
 go_wp2_with fail
 exact bodyPost_ret (v:=.agg #[.string ⟨s.toArray⟩,.string ⟨#[]⟩,.bool false,.bool false,.string ⟨#[]⟩,.int .u16 0,.string ⟨#[]⟩,nilV]) (by simp [results,Tryz.results89,go_sem]) rfl ⟨rfl,(Below.refl _ _).alloc (Nat.le_refl _) _⟩
theorem xvalue_any (n:Nat) (w:World):Calls Tryz.prog 83 #[.int .u16 n] w fun e w'=>e=.returned (arV (numA n) nilV)/\Below w.heap.size w w':=by
 go_enter Tryz.func83, Tryz.ntmps83
 go_wp2_with fail
 exact bodyPost_ret (v:=.agg #[.string ⟨#[]⟩,.string ⟨#[]⟩,.bool false,.bool false,.string ⟨#[35]⟩,.int .u16 n,.string ⟨#[]⟩,nilV]) (by simp [results,Tryz.results83,go_sem]) rfl ⟨rfl,(Below.refl _ _).alloc (Nat.le_refl _) _⟩
theorem OwnV.far {α:Type} {f:α->Value->List Value} {sub:World->(Nat->Prop)->Value->α->Prop} {E:TypeId} {C:Nat} (hkeep:∀ w w' S S' v a,sub w S v a->(∀ p:Addr,S p.block->w'.cell? p=w.cell? p)->(∀ g,S g->S' g)->sub w' S' v a)
  {w w':World} {base:Nat} {v:Value} {l:List α} {vs:List Value} (h:OwnV f sub E C w base v l vs) (hk:∀ g,base<=g->g<w.heap.size->w'.heap[g]? = w.heap[g]?) (hz:w.heap.size<=w'.heap.size):OwnV f sub E C w' base v l vs:=by
 obtain ⟨h1,h2,h3⟩:=h
 refine ⟨h1,⟨h2.1,?_⟩,fun i hi=>hkeep w w' _ _ _ _ (h3 i hi) (fun p hp=>World.cell?_of_block (hk _ hp.1 hp.2.1)) (fun g hg=>⟨hg.1,Nat.lt_of_lt_of_le hg.2.1 hz,hg.2.2⟩)⟩
 rcases h2.2 with h4 | ⟨g,cap,cur,h4,h5,h6,h7⟩
 ·exact .inl h4
 ·exact .inr ⟨g,cap,cur,h4,h5,(hk g h5 (loh h6)).trans h6,h7⟩
def WrAt (w:World) (k:Nat) (T:TypeId) (rest:List Value) (l:List St) (v:Value):Prop:=w.heap[k]? = some (.cells (v :: rest).toArray T (0,0))/\∃ vs,StOwn w (k+1) v l vs
def PutW (k:Nat) (T:TypeId) (rest:List Value) (l:List St) (v:Value) (w:World) (e:Ending) (w':World):Prop:=e=.returned (.tuple #[])/\∃ v',WrAt w' k T rest l v'/\Turn (k :: ownB v) w (k :: ownB v') w'
theorem mem_kv {k g:Nat} {v:Value}:g∈k :: ownB v ↔ g=k∨v.ownBlock=some g:=by simp [ownB,Option.mem_toList]
theorem xput_any (k:Nat) (T:TypeId) (rest:List Value) (l:List St) (v:Value) (op:List UInt8) (args:List Ar) (av:Value) (w:World) (h:WrAt w k T rest l v) (hl:l.length<=1000000)
  (ha:ArAt w (fun g=>k<g/\g<w.heap.size/\v.ownBlock≠some g) av args) :
  Calls Tryz.prog 17 #[.pointer (some ⟨k,0,none⟩),.string ⟨op.toArray⟩,av] w (PutW k T rest (l++[⟨[],false,op,args⟩]) v w):=by
 obtain ⟨hk,vs,ho⟩:=h
 obtain ⟨A,c,rfl,_,_⟩:=ha.form
 have hlt:=loh hk
 have c0:=coh (i:=0) hk
 have f0:=foh (i:=0) hk
 simp at c0 f0
 obtain ⟨vA,vc,rfl,_⟩:=own_slice ho.2.1 (by decide)
 have HK:=LH hk
 have HO:=LH ho
 have HA:=LH ha
 have HVL:=LH (fun g (hg:(Value.slice vA l.length vc).ownBlock=some g)=>ho.2.1.lt g hg)
 have BA:=LH ((Below.refl w.heap.size w).alloc (Nat.le_refl _) (.cells (stCells ⟨[],false,op,args⟩ (.slice A args.length c)).toArray 63))
 have HO8:=LH (OwnV.keep stSub_keep HO.out BA.out).2.1
 have HN8:=LH (rd_new w w.heap.size rfl (stCells ⟨[],false,op,args⟩ (.slice A args.length c)) 63)
 have HS8:=LH (show stSub (w.alloc (.cells (stCells ⟨[],false,op,args⟩ (.slice A args.length c)).toArray 63)) (fun g=>k+1<=g/\g<(w.alloc (.cells (stCells ⟨[],false,op,args⟩ (.slice A args.length c)).toArray 63)).heap.size/\(Value.slice vA l.length vc).ownBlock≠some g) (.slice A args.length c) ⟨[],false,op,args⟩ from
  ArAt.keep HA.out (fun p hp=>BA.out.cell hp.2.1) (fun g hg=>⟨hg.1,by have:=hg.2.1;simp;omega,hg.2.2⟩))
 have hb8:k+1<=(w.alloc (.cells (stCells ⟨[],false,op,args⟩ (.slice A args.length c)).toArray 63)).heap.size:=by simp;omega
 clear hk ho ha
 go_enter Tryz.func17, Tryz.ntmps17
 go_wp2_with (at_builtin;refine wpList_append_to _ rfl (.tmp 10) (.tmp 14) 43 rfl (k+1) 63 _ 4 64 Tryz.underlying43 info_st rfl (by omega) HO8.out rfl HN8.out rfl rfl (stCells_one _ _ rfl) (by omega) (by omega) hb8 ?_;intro v9 w9 hown9 hbel9 hg9 hv9;have ON:=LH (OwnV.snoc stSub_keep HO.out BA.out HS8.out hown9 hg9 hv9);have HG9:=LH hg9;have HV9:=LH hv9;have HK9:=LH ((hg9.block k (Nat.lt_of_lt_of_le hlt BA.out.size) (fun e=>by have:=HVL.out k e.symm;omega)).trans ((BA.out.block k hlt).trans HK.out));have hz9:w.heap.size+1<=w9.heap.size:=(by have:=hg9.size;simpa using this);have d0:=coh (i:=0) HK9.out;have e0:=foh (i:=0) HK9.out;simp at d0 e0;obtain ⟨nA,nc,rfl,_⟩:=own_slice hown9 (by decide);clear hown9 hbel9 hg9 hv9 HO8 HN8 HS8 hb8 c0 f0)
 go_end0
 refine ⟨rfl,_,⟨heap_set (i:=0) _ HK9.out,_,OwnV.far stSub_keep ON.out (fun g hg _=>set_block (by omega)) (by simp)⟩,by simp;omega,fun g hg=>?_,fun g hg hn=>?_,?_⟩
 ·rcases mem_kv.1 hg with rfl | hg
  ·exact .inl (mem_kv.2 (.inl rfl))
  ·rcases HV9.out with h1 | h1
   ·exact .inl (mem_kv.2 (.inr (h1 ▸ hg)))
   ·rw [h1] at hg;cases hg;right;simp
 ·rw [mem_kv] at hn
  simp only [not_or] at hn
  exact (set_block hn.1).trans ((HG9.out.block g (Nat.lt_of_lt_of_le hg BA.out.size) (fun e=>hn.2 e.symm)).trans (BA.out.block g hg))
 ·exact (Still.bel BA.out).trans (show Still _ (w9.setCell _ _) from (Still.grown HG9.out:Still _ w9))
def opSt (s:List UInt8):St:=⟨[],false,s,[]⟩
theorem PutW.trans {k:Nat} {T:TypeId} {rest:List Value} {l:List St} {v v1:Value} {w w1:World} {e:Ending} {w':World} (h:PutW k T rest l v1 w1 e w') (ht:Turn (k :: ownB v) w (k :: ownB v1) w1):PutW k T rest l v w e w':=by
 obtain ⟨h1,v',h2,h3⟩:=h
 exact ⟨h1,v',h2,ht.trans h3⟩
theorem xputs_any (k:Nat) (T:TypeId) (rest:List Value) (ws:List (List UInt8)) (l:List St) (v:Value) (g:Nat) (w:World) (h:WrAt w k T rest l v) (hl:l.length+ws.length<=1000000)
  (hg:g<w.heap.size) (hgk:g≠k) (hgv:v.ownBlock≠some g) (hc:∀ j (hj:j<ws.length),w.cell? ⟨g,j,none⟩=some (.string ⟨ws[j].toArray⟩)) :
  Calls Tryz.prog 16 #[.pointer (some ⟨k,0,none⟩),.slice (some ⟨g,0,none⟩) ws.length ws.length] w (PutW k T rest (l++ws.map opSt) v w):=by
 have H:=LH h
 have HC:=LH hc
 have HG:Hid (g∉k :: ownB v):=LH (fun hm=>by rcases mem_kv.1 hm with h1 | h1;exact hgk h1;exact hgv h1)
 clear h hc
 go_enter Tryz.func16, Tryz.ntmps16
 go_wp2_with fail
 go_loopw [8] (fun i wr=>∃ (j:Nat) (vj:Value),j<=ws.length/\i=.int .i64 j/\WrAt wr k T rest (l++(ws.take j).map opSt) vj/\Turn (k :: ownB v) w (k :: ownB vj) wr) (fun i _=>ws.length - (intOf i).toNat)
 case atStart=>exact ⟨0,v,Nat.zero_le _,rfl,by simpa using H.out,Turn.refl _ _⟩
 case round=>
  obtain ⟨j,vj,hj,rfl,hat,ht⟩:=hrel
  have HT:=LH ht
  by_cases hlt:j<ws.length
  ·have i1:(j:Int)<(ws.length:Int):=by omega
   have ck:=(World.cell?_of_block (a:=⟨g,j,none⟩) (ht.2.2.1 g hg HG.out)).trans (HC.out j hlt)
   have HTK:Hid (ws.take (j+1)=ws.take j++[ws[j]]):=LH (List.take_succ_eq_append_getElem hlt)
   have hlen:(l++(ws.take j).map opSt).length<=1000000:=by simp;omega
   have HP:=LH (xput_any k T rest _ vj ws[j] [] (.slice none 0 0) wr hat hlen (ArAt.nil _ _))
   generalize ws[j]=s at *
   clear hat ht hlen
   go_wp2_with fail
   refine HP.out.mono ?_
   rintro e w2 ⟨rfl,v2,hat2,ht2⟩
   have HAT2:=LH hat2
   have HT2:=LH (HT.out.trans ht2)
   clear hat2 ht2
   go_wp2_with fail
   go_roundw
   case rel=>exact ⟨j+1,v2,by omega,by go_num,by rw [HTK.out,List.map_append,← List.append_assoc];exact HAT2.out,HT2.out⟩
   case measure=>simp [intOf];omega
  ·obtain rfl:j=ws.length:=by omega
   have HAT:=LH hat
   clear hat ht
   go_wp2_with fail
   go_end0
   refine ⟨rfl,vj,?_,HT.out⟩
   have h1:=HAT.out
   rwa [List.take_length] at h1
theorem u16_key:Maps.Keyed Tryz.prog 22:=Maps.int_keyed Tryz.underlying22
abbrev litU (x:Nat):Lit:=.int .u16 x
theorem litU_wf (x:Nat) (h:x<=65535):(litU x).wf=true:=by
 have e1:IntKind.u16.min=0:=by decide
 have e2:IntKind.u16.max=65535:=by decide
 simp [Lit.wf,e1,e2]
 omega
section
variable {α:Type}
structure KeyF (f:α->Lit):Prop where
 inj:∀ a b,f a=f b->a=b
 key:∀ a,WideAt.IsKeyLit (f a)
def SetF (f:α->Lit) (kt:TypeId) (w:World) (b:Nat) (xs:List α):Prop:=w.ownsMap Tryz.prog kt (plainElem (H:=Unit) Tryz.prog 4) b xs.length (Maps.setOf (.lit (.bool true)) (xs.map f))
theorem SetF.made (f:α->Lit) (kt:TypeId) (w:World):SetF f kt (w.alloc (.map #[] 0)) w.heap.size []:=World.ownsMap_made w Tryz.prog kt _
theorem SetF.lt {f:α->Lit} {kt:TypeId} {w:World} {b:Nat} {xs:List α} (h:SetF f kt w b xs):b<w.heap.size:=World.ownsMap.lt h
theorem SetF.keep {f:α->Lit} {kt:TypeId} {w w':World} {b:Nat} {xs:List α} (h:SetF f kt w b xs) (hk:w'.heap[b]? = w.heap[b]?):SetF f kt w' b xs:=by
 obtain ⟨es,clock,hb,F,hs,hD⟩:=h
 exact ⟨es,clock,hk.trans hb,F,hs,hD⟩
theorem isKeyF {f:α->Lit} (hf:KeyF f) (xs:List α):∀ x∈xs.map f,WideAt.IsKeyLit x:=by
 intro x hx
 obtain ⟨a,_,rfl⟩:=List.mem_map.1 hx
 exact hf.key a
theorem atKey_setF [DecidableEq α] {f:α->Lit} (hf:KeyF f) (xs:List α) (x:α):(Maps.setOf (H:=Unit) (.lit (.bool true)) (xs.map f)).atKey (f x) (.lit (.bool false))=.lit (.bool (decide (x∈xs))):=by
 refine list_rev (P:=fun xs=>(Maps.setOf (H:=Unit) (.lit (.bool true)) (xs.map f)).atKey (f x) (.lit (.bool false))=.lit (.bool (decide (x∈xs)))) rfl (fun xs a ih=>?_) xs
 show (Maps.setOf (H:=Unit) (.lit (.bool true)) ((xs++[a]).map f)).atKey (f x) (.lit (.bool false))=.lit (.bool (decide (x∈xs++[a])))
 rw [List.map_append,List.map_cons,List.map_nil,Maps.setOf_snoc]
 by_cases h:a=x
 ·subst h
  rw [Maps.atKey_put_same (Maps.Tidy.isMap (Maps.tidy_setOf _ _ (isKeyF hf xs))) (hf.key a)]
  simp
 ·rw [Maps.atKey_put_other (fun e=>h (hf.inj _ _ e.symm)),ih]
  congr 2
  simp [Ne.symm h]
theorem SetF.look [DecidableEq α] {f:α->Lit} (hf:KeyF f) {kt mt:TypeId} (hk:Maps.Keyed Tryz.prog kt) (hm:Tryz.prog.underlying mt=some (.map kt 4)) {w:World} {b:Nat} {xs:List α} (h:SetF f kt w b xs) (x:α) {xv:Value} (hx:keyOf Tryz.prog kt xv=some (f x)) :
  (Instr.lookup mt (.map (some b)) xv false).run Tryz.prog w=.ok (.bool (decide (x∈xs))) w:=by
 obtain ⟨v,ps,hrun,hv⟩:=World.ownsMap.lookup h hk hm (zero_bool w) (plainElem_bool Tryz.underlying4 false) hx
 rw [atKey_setF hf] at hv
 obtain ⟨y,rfl,hy⟩:=plainElem_bool_inv Tryz.underlying4 hv
 simp only [Prod.mk.injEq,DataW.lit.injEq,Lit.bool.injEq] at hy
 rw [hrun,← hy.1]
theorem SetF.put {f:α->Lit} {kt:TypeId} {w':World} {b:Nat} {xs:List α} (x:α) (h:w'.ownsMap Tryz.prog kt (plainElem (H:=Unit) Tryz.prog 4) b (xs.length+1) ((Maps.setOf (.lit (.bool true)) (xs.map f)).put (f x) (.lit (.bool true)))):SetF f kt w' b (xs++[x]):=by
 unfold SetF
 rw [List.map_append,List.map_cons,List.map_nil,Maps.setOf_snoc,List.length_append]
 exact h
end
theorem keyU:KeyF litU:=⟨fun a b h=>by injection h with _ h;omega,fun _=>by trivial⟩
theorem keyS:KeyF litS:=⟨fun a b h=>by injection h,fun _=>by trivial⟩
abbrev SetU (w:World) (b:Nat) (xs:List Nat):Prop:=SetF litU 22 w b xs
abbrev SetS (w:World) (b:Nat) (xs:List (List UInt8)):Prop:=SetF litS 9 w b xs
theorem SetU.at {w:World} {b:Nat} {xs:List Nat} (h:SetU w b xs) (x:Nat) (hx:x<=65535):(Instr.lookup 51 (.map (some b)) (.int .u16 (x:Int)) false).run Tryz.prog w=.ok (.bool (decide (x∈xs))) w:=
 SetF.look keyU u16_key Tryz.underlying51 h x (Maps.keyOf_int_mk Tryz.underlying22 (litU_wf x hx))
theorem SetS.at {w:World} {b:Nat} {xs:List (List UInt8)} (h:SetS w b xs) (x:List UInt8) (hx:x.length<=1000):(Instr.lookup 52 (.map (some b)) (.string ⟨x.toArray⟩) false).run Tryz.prog w=.ok (.bool (decide (x∈xs))) w:=
 (SetF.look keyS str_key Tryz.underlying52 h x (key_str x hx)).trans (congrArg (fun b=>Result.ok (Value.bool b) w) (decide_eq_decide.2 Iff.rfl))
theorem xtarget_any (n:Nat) (w:World):Calls Tryz.prog 18 #[.int .u16 (n:Nat)] w fun e w'=>e=.returned (arV (nameA (labelD n)) nilV)/\Below w.heap.size w w':=by
 have HL:=LH (fun W=>xlabel_any n W)
 have O0:=LH (heap_alloc_new w (.cells #[.string ⟨#[]⟩,.string ⟨#[]⟩,.bool false,.bool false,.string ⟨#[]⟩,.int .u16 0,.string ⟨#[]⟩,.slice none 0 0] 72))
 have B0:=LH ((Below.refl w.heap.size w).alloc (Nat.le_refl _) (.cells #[.string ⟨#[]⟩,.string ⟨#[]⟩,.bool false,.bool false,.string ⟨#[]⟩,.int .u16 0,.string ⟨#[]⟩,.slice none 0 0] 72))
 go_enter Tryz.func18, Tryz.ntmps18
 go_wp2_with fail
 refine (HL.out _).mono ?_
 rintro e w1 ⟨rfl,hb1⟩
 have O1:=(hb1.block w.heap.size (by simp)).trans O0.out
 have B1:=LH (bthen B0.out hb1)
 have c0:=coh (i:=0) O1
 have c1:=coh (i:=1) O1
 have c2:=coh (i:=2) O1
 have c3:=coh (i:=3) O1
 have c4:=coh (i:=4) O1
 have c5:=coh (i:=5) O1
 have c6:=coh (i:=6) O1
 have c7:=coh (i:=7) O1
 have f0:=foh (i:=0) O1
 have f1:=foh (i:=1) O1
 have f2:=foh (i:=2) O1
 have f3:=foh (i:=3) O1
 have f4:=foh (i:=4) O1
 have f5:=foh (i:=5) O1
 have f6:=foh (i:=6) O1
 have f7:=foh (i:=7) O1
 simp at c0 c1 c2 c3 c4 c5 c6 c7 f0 f1 f2 f3 f4 f5 f6 f7
 clear hb1 O1 O0 B0 HL
 go_wp2_with fail
 refine bodyPost_ret (v:=arV (nameA (labelD n)) nilV) (by simp [results,Tryz.results18,go_sem,c0,c1,c2,c3,c4,c5,c6,c7];exact ⟨rfl,rfl,rfl,rfl,rfl,rfl,rfl⟩) rfl ?_
 exact ⟨rfl,(((((((B1.out.setCell (Nat.le_refl _) _).setCell (Nat.le_refl _) _).setCell (Nat.le_refl _) _).setCell (Nat.le_refl _) _).setCell (Nat.le_refl _) _).setCell (Nat.le_refl _) _).setCell (Nat.le_refl _) _).setCell (Nat.le_refl _) _⟩
theorem rowV_append {α:Type} {f:α->Value->List Value} (l l2:List α) (vs2:List Value):∀ vs:List Value,vs.length=l.length->rowV f (l++l2) (vs++vs2)=rowV f l vs++rowV f l2 vs2:=by
 induction l with
 | nil=>intro vs h;cases vs <;> simp_all [rowV]
 | cons b l ih=>
  intro vs h
  cases vs with
  | nil=>simp at h
  | cons u vs=>simp [rowV,ih vs (by simpa using h)]
theorem stOwn_more {w0 w':World} {base:Nat} {v v':Value} {l l2:List St} {vs vs2:List Value} (h:StOwn w0 base v l vs) (h2:vs2.length=l2.length)
  (hs:∀ i (hi:i<l2.length),stSub w0 (fun g=>base<=g/\g<w0.heap.size/\v.ownBlock≠some g) (vs2.getD i (.slice none 0 0)) l2[i])
  (hown:w'.ownsRow base 63 4 v' (l.length+l2.length) (rowV stCells l vs++rowV stCells l2 vs2)) (hg:w0.grownBy w' v.ownBlock) (hv:v'.ownBlock=v.ownBlock∨v'.ownBlock=some w0.heap.size) :
  StOwn w' base v' (l++l2) (vs++vs2):=by
 obtain ⟨h1,_,h3⟩:=h
 refine ⟨by simp [h1,h2],by rw [rowV_append l l2 vs2 vs h1];simpa using hown,fun i hi=>?_⟩
 have hS:∀ g,(base<=g/\g<w0.heap.size/\v.ownBlock≠some g)->(base<=g/\g<w'.heap.size/\v'.ownBlock≠some g):=by
  rintro g ⟨g1,g2,g3⟩
  refine ⟨g1,Nat.lt_of_lt_of_le g2 hg.size,?_⟩
  rcases hv with hv | hv <;> rw [hv]
  ·exact g3
  ·intro h;injection h with h;omega
 have hK:∀ p:Addr,(base<=p.block/\p.block<w0.heap.size/\v.ownBlock≠some p.block)->w'.cell? p=w0.cell? p:=fun p hp=>hg.cell_far p hp.2.1 (fun h=>hp.2.2 h.symm)
 by_cases hil:i<l.length
 ·have e1:(l++l2)[i]=l[i]:=List.getElem_append_left hil
  have e2:(vs++vs2).getD i (.slice none 0 0)=vs.getD i (.slice none 0 0):=by
   rw [List.getD_eq_getElem?_getD,List.getD_eq_getElem?_getD,List.getElem?_append_left (by omega)]
  rw [e1,e2]
  exact stSub_keep w0 w' _ _ _ _ (h3 i hil) hK hS
 ·have hi2:i - l.length<l2.length:=by simp at hi;omega
  have e1:(l++l2)[i]=l2[i - l.length]:=List.getElem_append_right (by omega)
  have e2:(vs++vs2).getD i (.slice none 0 0)=vs2.getD (i - l.length) (.slice none 0 0):=by
   rw [List.getD_eq_getElem?_getD,List.getD_eq_getElem?_getD,List.getElem?_append_right (by omega),h1]
  rw [e1,e2]
  exact stSub_keep w0 w' _ _ _ _ (hs _ hi2) hK hS
theorem stOwn_label {w:World} {base g c n:Nat} {f:St} {r:List St} {vs:List Value} (lab:List UInt8) (h:StOwn w base (.slice (some ⟨g,0,none⟩) n c) (f :: r) vs) :
  StOwn ((w.setCell ⟨g,0,none⟩ (.string ⟨lab.toArray⟩)).setCell ⟨g,1,none⟩ (.bool true)) base (.slice (some ⟨g,0,none⟩) n c) (⟨lab,true,f.op,f.args⟩ :: r) vs:=by
 obtain ⟨h1,h2,h3⟩:=h
 cases vs with
 | nil=>simp at h1
 | cons u us=>
  rcases h2.2 with ⟨h,_⟩ | ⟨g',cap,cur,e,hb,hg,hn,hc,hs,ht⟩
  ·cases h
  ·injection e with e e4 e5
   injection e with e
   injection e with e
   subst e e5
   have hh:=heap_set (w:=w.setCell ⟨g,0,none⟩ (.string ⟨lab.toArray⟩)) (i:=1) (.bool true) (heap_set (w:=w) (i:=0) (.string ⟨lab.toArray⟩) hg)
   refine ⟨h1,⟨?_,.inr ⟨g,c,_,?_,hb,hh,hn,hc,by simpa using hs,?_⟩⟩,fun i hi=>?_⟩
   ·have:=h2.1
    simpa [rowV,stCells] using this
   ·rw [e4];rfl
   ·simp only [List.length_cons] at ht ⊢
    rw [Array.toList_setIfInBounds,Array.toList_setIfInBounds,List.take_set,List.take_set,ht]
    rfl
   ·have h5:=h3 i hi
    have hk:∀ p:Addr,(base<=p.block/\p.block<w.heap.size/\(Value.slice (some ⟨g,0,none⟩) n c).ownBlock≠some p.block)->((w.setCell ⟨g,0,none⟩ (.string ⟨lab.toArray⟩)).setCell ⟨g,1,none⟩ (.bool true)).cell? p=w.cell? p:=fun p hp=>by
     have hne:p.block≠g:=fun e=>hp.2.2 (by rw [e];rfl)
     exact (World.cell?_of_block (set_block hne)).trans (World.cell?_of_block (set_block hne))
    cases i with
    | zero=>exact stSub_keep w _ _ _ _ _ (show stSub w _ _ (⟨lab,true,f.op,f.args⟩:St) from h5) hk (fun g hg=>⟨hg.1,by simpa using hg.2.1,hg.2.2⟩)
    | succ i=>exact stSub_keep w _ _ _ _ _ h5 hk (fun g hg=>⟨hg.1,by simpa using hg.2.1,hg.2.2⟩)
theorem wr_more {w0 w9:World} {K base2:Nat} {T:TypeId} {rest:List Value} {l l2:List St} {v v2 v9:Value} {vs vs2:List Value} (hk:w0.heap[K]? = some (.cells (v :: rest).toArray T (0,0))) (ho:StOwn w0 (K+1) v l vs) (h2:StOwn w0 base2 v2 l2 vs2) (hb:K+1<=base2)
  (hv:∀ g,v.ownBlock=some g->g<base2) (hown:w9.ownsRow (K+1) 63 4 v9 (l.length+l2.length) (rowV stCells l vs++rowV stCells l2 vs2)) (hg:w0.grownBy w9 v.ownBlock) (hv9:v9.ownBlock=v.ownBlock∨v9.ownBlock=some w0.heap.size) :
  WrAt (w9.setCell ⟨K,0,none⟩ v9) K T rest (l++l2) v9:=by
 have hK:=(hg.block K (loh hk) (fun e=>by have:=(ho.2.1.lt K e.symm).1;omega)).trans hk
 have hm:=stOwn_more ho h2.1 (fun i hi=>stSub_keep w0 w0 _ _ _ _ (h2.2.2 i hi) (fun _ _=>rfl) (fun g hg=>⟨by have:=hg.1;omega,hg.2.1,fun e=>by have:=hv g e;have:=hg.1;omega⟩)) hown hg hv9
 exact ⟨heap_set (i:=0) v9 hK,_,OwnV.far stSub_keep hm (fun g hg _=>set_block (by omega)) (by simp)⟩
theorem own_free {w:World} {base g n c C i:Nat} {E:TypeId} {xs:List Value} (h:w.ownsRow base E C (.slice (some ⟨g,0,none⟩) n c) n xs):w.frozen? ⟨g,i,none⟩=false:=by
 rcases h.2 with ⟨h,_⟩ | ⟨g',cap,cur,e,hb,hg,hn,hc,hs,ht⟩
 ·cases h
 ·injection e with e _ _
  injection e with e
  injection e with e
  subst e
  rw [foh hg]
  simp
theorem stOwn_one {w:World} {base:Nat} {v:Value} {l:List St} {vs:List Value} (h:StOwn w base v l vs):∀ u∈rowV stCells l vs,u.oneCell'=true:=
 rowV_one l vs (fun a x hx u hu=>stCells_one a x (by
  obtain ⟨i,hi,rfl⟩:=List.getElem_of_mem hx
  have h1:=h.2.2 i (by rw [← h.1];exact hi)
  rw [List.getD_eq_getElem?_getD,List.getElem?_eq_getElem hi] at h1
  obtain ⟨A,c,e,_⟩:=ArAt.form h1
  simp only [Option.getD_some] at e
  rw [e]
  rfl) u hu)
end Go.Proofs.YtbdnbfacalfciaaGreatDoor
