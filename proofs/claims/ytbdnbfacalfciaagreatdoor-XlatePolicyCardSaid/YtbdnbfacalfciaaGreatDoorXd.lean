/- Xd. -/
import Derived.Test.YtbdnbfacalfciaaGreatDoorXa
import Derived.Test.YtbdnbfacalfciaaGreatDoorUb
import Derived.Test.YtbdnbfacalfciaaGreatDoorKn
import Derived.RegionTactic
import Derived.Deep.QuietTactic
import Derived.BigQuiet
import Derived.Test.YtbdnbfacalfciaaGreatDoorKa
namespace Go.Proofs.YtbdnbfacalfciaaGreatDoor
set_option maxRecDepth 100000
set_option maxHeartbeats 4000000
open Go.RowKit
theorem wrap16 (n:Int):IntKind.u16.wrap n=n % 65536:=by simp [IntKind.wrap,IntKind.bits,IntKind.signed]
theorem byteA_le (n:Nat):(byteA n).1<256:=by unfold byteA;split <;> simp <;> omega
theorem byteA_any (n:Nat) (h:n<=65535) (w:World):Calls Tryz.prog 251 #[.int .u16 n] w fun e w'=>e=.returned (.tuple #[.int .u8 (byteA n).1,.int .i64 (byteA n).2])/\w=w':=by
 by_cases h0:n / 256=0
 ·have e0:(((n:Int) / 256) != 0)=false:=by rw [bne_eq_false_iff_eq];omega
  have e1:IntKind.u8.wrap (n:Int)=(n:Int):=IntWalk.u8_in _ (by omega)
  have hv:byteA n=(n,0):=by unfold byteA;rw [if_neg (fun hh=>hh.1 h0)];congr 1;omega
  rw [hv]
  go_enter Tryz.func251, Tryz.ntmps251
  go_wp2_with fail
  go_ret2
  exact ⟨rfl,rfl⟩
 ·have e0:(((n:Int) / 256) != 0)=true:=by rw [bne_iff_ne];omega
  by_cases h1:n<65408
  ·have e1:(n:Int)<65408:=by omega
   have hv:byteA n=(0,5):=by unfold byteA;rw [if_pos ⟨h0,h1⟩]
   rw [hv]
   go_enter Tryz.func251, Tryz.ntmps251
   go_wp2_with fail
   go_ret2
   exact ⟨rfl,rfl⟩
  ·have e1:decide ((n:Int)<65408)=false:=by simp;omega
   have e2:IntKind.u8.wrap (n:Int)=((n % 256:Nat):Int):=by rw [IntKind.wrap_u8];omega
   have hv:byteA n=(n % 256,0):=by unfold byteA;rw [if_neg (fun hh=>h1 hh.2)]
   rw [hv]
   go_enter Tryz.func251, Tryz.ntmps251
   go_wp2_with fail
   go_ret2
   exact ⟨rfl,rfl⟩
theorem here_any (n:Nat) (_h:n<=131072) (w:World):Calls Tryz.prog 235 #[.agg #[.int .i64 n]] w fun e w'=>e=.returned (.int .u16 ((n % 65536:Nat):Int))/\Below w.heap.size w w':=by
 have e1:IntKind.u16.wrap (n:Int)=((n % 65536:Nat):Int):=by rw [wrap16];omega
 have hb:=(Below.refl w.heap.size w).alloc (Nat.le_refl _) (.cells #[.int .i64 n] 191)
 go_enter Tryz.func235, Tryz.ntmps235
 go_wp2_with fail
 go_ret
 exact ⟨rfl,hb⟩
theorem plainA_any (x:Ar) (v:Value) (w:World):Calls Tryz.prog 233 #[.agg (arCells x v).toArray] w fun e w'=>e=.returned (.bool (plainA x))/\Below w.heap.size w w':=by
 have hb:=LH ((Below.refl w.heap.size w).alloc (Nat.le_refl _) (.cells (arCells x v).toArray 72))
 obtain ⟨m,t,is,mem,e⟩:=x
 unfold plainA arCells at *
 by_cases hm:m = []
 ·subst hm
  cases is <;> cases mem
  all_goals (
   go_enter Tryz.func233, Tryz.ntmps233
   go_wp2_with fail
   go_ret
   exact ⟨rfl,hb.out⟩)
 ·have e1:(m == [])=false:=str_ne hm
  simp only [e1,Bool.false_and] at *
  go_enter Tryz.func233, Tryz.ntmps233
  go_wp2_with fail
  go_ret
  exact ⟨rfl,hb.out⟩
def NewB (w:World) (v:Value):Prop:=∀ x,v.ownBlock=some x->w.heap.size<=x
theorem NewB.nil (w:World) (n c:Nat):NewB w (.slice none n c):=fun x h=>by cases h
theorem NewB.one {w:World} {g o n c:Nat} (h:w.heap.size<=g):NewB w (.slice (some ⟨g,o,none⟩) n c):=fun x hx=>by cases hx;exact h
def BytsR (b:List UInt8 × Nat × Nat) (w:World) (e:Ending) (w':World):Prop:=∃ v,e=.returned (.tuple #[v,.int .u16 (b.2.1:Nat),.int .i64 (b.2.2:Nat)])/\RdB w' w'.heap.size v b.1/\NewB w v/\Below w.heap.size w w'
theorem u8_or_c7:∀ k:Fin 8,199 ||| (k.val * 8)=199+k.val * 8:=by decide
theorem RdB.lit (w:World) (b:List UInt8) (_h:b≠[]):RdB (w.alloc (.cells (b.map bv).toArray 5)) (w.heap.size+1) (.slice (some ⟨w.heap.size,0,none⟩) b.length b.length) b:=by
 refine ⟨_,_,rfl,Nat.le_refl _,fun _=>⟨_,_,rfl,by omega,fun j u hj=>?_⟩⟩
 rw [coh (heap_alloc_new w _),Nat.zero_add,List.getElem?_toArray]
 exact hj
theorem rst80_any (pl:Int) (v:Nat) (h:v<=65535) (w:World):Calls Tryz.prog 300 #[.int .i64 pl,.int .u16 v] w (BytsR (rst80A v) w):=by
 by_cases h7:7<v
 ·have e1:(7:Int)<(v:Int):=by omega
  have hv:rst80A v=([],0,5):=by unfold rst80A;rw [if_pos h7]
  rw [hv]
  go_enter Tryz.func300, Tryz.ntmps300
  go_wp2_with fail
  go_ret3
  exact ⟨_,rfl,⟨none,0,rfl,Nat.le_refl _,fun h0=>absurd h0 (by simp)⟩,NewB.nil _ _ _,Below.refl _ _⟩
 ·have e1:decide ((7:Int)<(v:Int))=false:=by simp;omega
  have hv:rst80A v=([UInt8.ofNat (199+v * 8)],v,0):=by unfold rst80A;rw [if_neg h7]
  rw [hv]
  have HL:=LH (RdB.lit w [UInt8.ofNat (199+v * 8)] (by simp))
  have HB:=LH ((Below.refl w.heap.size w).alloc (Nat.le_refl _) (.cells ([UInt8.ofNat (199+v * 8)].map bv).toArray 5))
  have e2:IntKind.u8.wrap (v:Int)=(v:Int):=IntWalk.u8_in _ (by omega)
  have e3:bits .or .u8 199 ((v:Int) * 8)=((UInt8.ofNat (199+v * 8)).toNat:Int):=by
   have h1:=u8_or_nat 199 (v * 8) (by decide) (by omega)
   have h2:=u8_or_c7 ⟨v,by omega⟩
   rw [show (199 ||| v * 8)=199+v * 8 from h2] at h1
   rw [show ((v:Int) * 8)=((v * 8:Nat):Int) by omega]
   rw [show ((199:Nat):Int)=199 from rfl] at h1
   rw [h1,UInt8.toNat_ofNat']
   omega
  go_enter Tryz.func300, Tryz.ntmps300
  go_wp2_with fail
  go_ret3
  exact ⟨_,rfl,by simpa [bv] using HL.out,NewB.one (Nat.le_refl _),by simpa [bv] using HB.out⟩
theorem RdB.of_heap {w:World} {g:Nat} {b:List UInt8} {T:TypeId} {fr:Nat × Nat} (h:w.heap[g]? = some (.cells (b.map bv).toArray T fr)) (k:Nat) (hk:k<=b.length):RdB w w.heap.size (.slice (some ⟨g,0,none⟩) k k) (b.take k):=by
 have hl:(b.take k).length=k:=by rw [List.length_take];omega
 unfold RdB
 rw [hl]
 refine ⟨_,_,rfl,Nat.le_refl _,fun _=>⟨_,_,rfl,loh h,fun j u hj=>?_⟩⟩
 rw [coh h,Nat.zero_add,List.getElem?_toArray]
 rw [List.map_take,List.getElem?_take] at hj
 split at hj
 ·exact hj
 ·cases hj
def BytK (b:List UInt8 × Nat) (w:World) (e:Ending) (w':World):Prop:=∃ v,e=.returned (.tuple #[v,.int .i64 (b.2:Nat)])/\RdB w' w'.heap.size v b.1/\NewB w v/\Below w.heap.size w w'
theorem BytK.none {w w':World} (k:Nat) (h:Below w.heap.size w w'):BytK ([],k) w (.returned (.tuple #[.slice none 0 0,.int .i64 (k:Nat)])) w':=⟨_,rfl,⟨_,_,rfl,Nat.le_refl _,fun h0=>absurd h0 (by simp)⟩,NewB.nil _ _ _,h⟩
theorem sizes80:∀ k:Fin 256,size80 k.val<=3:=by decide +kernel
theorem bytes80_any (op n:Nat) (ho:op<256) (hn:n<=65535) (w:World):Calls Tryz.prog 306 #[.agg #[.int .u8 op,.int .u16 n]] w (BytK (bytes80 op n) w):=by
 have HS:=LH (fun W=>size80_any op ho W)
 have hs3:size80 op<=3:=sizes80 ⟨op,ho⟩
 have HV:Hid (bytes80 op n=if size80 op=0 then ([],8) else if size80 op<3/\n / 256≠0∨size80 op<2/\n≠0 then ([],5) else ((UInt8.ofNat op :: lohi n).take (size80 op),0)):=LH rfl
 have w1:IntKind.u8.wrap (n:Int)=((n % 256:Nat):Int):=by rw [IntKind.wrap_u8];omega
 have w2:IntKind.u8.wrap ((n:Int) / 256)=((n / 256:Nat):Int):=by rw [IntKind.wrap_u8];omega
 have B1:=LH (((Below.refl w.heap.size w).alloc (Nat.le_refl _) (.cells #[.int .u8 op,.int .u16 n] 396)).alloc (by simp) (.cells ((UInt8.ofNat op :: lohi n).map bv).toArray 5))
 have O1:=LH (heap_alloc_new (w.alloc (.cells #[.int .u8 op,.int .u16 n] 396)) (.cells ((UInt8.ofNat op :: lohi n).map bv).toArray 5))
 have O0:=LH ((Below.heap_alloc (w.alloc (.cells #[.int .u8 op,.int .u16 n] 396)) (.cells ((UInt8.ofNat op :: lohi n).map bv).toArray 5) w.heap.size (by simp)).trans (heap_alloc_new w _))
 have hlit:((UInt8.ofNat op :: lohi n).map bv).toArray=#[.int .u8 (op:Int),.int .u8 ((n:Int) % 256),.int .u8 ((n:Int) / 256)]:=by
  simp [lohi,bv]
  omega
 rw [hlit] at B1 O0
 have HLIT:=LH hlit
 clear hlit
 go_enter Tryz.func306, Tryz.ntmps306
 go_wp2_with fail
 refine (HS.out _).mono ?_
 rintro e w3 ⟨rfl,hb3⟩
 have B3:=LH (bthen B1.out hb3)
 have O3:=LH ((hb3.block w.heap.size (by simp;omega)).trans O0.out)
 have k1:=coh (i:=1) O3.out
 simp at k1
 have O4:Hid (w3.heap[w.heap.size+1]? = some (.cells ((UInt8.ofNat op :: lohi n).map bv).toArray 5 (0,0))):=LH (by
  rw [HLIT.out]
  have h1:=O1.out
  rw [HLIT.out] at h1
  have h2:=hb3.block (w.heap.size+1) (by simp)
  rw [h2]
  simpa using h1)
 clear hb3 O3 O1 O0 HS HLIT
 have hsz:size80 op=0∨size80 op=1∨size80 op=2∨size80 op=3:=by omega
 generalize size80 op=sz at *
 rcases hsz with rfl | rfl | rfl | rfl
 ·go_wp2_with fail
  go_ret2
  rw [HV.out]
  exact BytK.none 8 B3.out
 ·by_cases h0:n / 256=0
  ·have e1:(((n:Int) / 256) != 0)=false:=by rw [bne_eq_false_iff_eq];omega
   by_cases h1:n=0
   ·have e2:((n:Int) != 0)=false:=by rw [bne_eq_false_iff_eq];omega
    have hv:bytes80 op n=((UInt8.ofNat op :: lohi n).take 1,0):=by rw [HV.out,if_neg (by decide),if_neg (by omega)]
    clear h0 h1
    go_wp2_with fail
    go_ret2
    rw [hv]
    exact ⟨_,rfl,RdB.of_heap O4.out 1 (by simp [lohi]),NewB.one (Nat.le_succ _),B3.out⟩
   ·have e2:((n:Int) != 0)=true:=by rw [bne_iff_ne];omega
    have hv:bytes80 op n=([],5):=by rw [HV.out,if_neg (by decide),if_pos (.inr ⟨by decide,h1⟩)]
    clear h0 h1
    go_wp2_with fail
    go_ret2
    rw [hv]
    exact BytK.none 5 B3.out
  ·have e1:(((n:Int) / 256) != 0)=true:=by rw [bne_iff_ne];omega
   have hv:bytes80 op n=([],5):=by rw [HV.out,if_neg (by decide),if_pos (.inl ⟨by decide,h0⟩)]
   clear h0
   go_wp2_with fail
   go_ret2
   rw [hv]
   exact BytK.none 5 B3.out
 ·by_cases h0:n / 256=0
  ·have e1:(((n:Int) / 256) != 0)=false:=by rw [bne_eq_false_iff_eq];omega
   have hv:bytes80 op n=((UInt8.ofNat op :: lohi n).take 2,0):=by rw [HV.out,if_neg (by decide),if_neg (by omega)]
   clear h0
   go_wp2_with fail
   go_ret2
   rw [hv]
   exact ⟨_,rfl,RdB.of_heap O4.out 2 (by simp [lohi]),NewB.one (Nat.le_succ _),B3.out⟩
  ·have e1:(((n:Int) / 256) != 0)=true:=by rw [bne_iff_ne];omega
   have hv:bytes80 op n=([],5):=by rw [HV.out,if_neg (by decide),if_pos (.inl ⟨by decide,h0⟩)]
   clear h0
   go_wp2_with fail
   go_ret2
   rw [hv]
   exact BytK.none 5 B3.out
 ·have hv:bytes80 op n=((UInt8.ofNat op :: lohi n).take 3,0):=by rw [HV.out,if_neg (by decide),if_neg (by omega)]
  go_wp2_with fail
  go_ret2
  rw [hv]
  exact ⟨_,rfl,RdB.of_heap O4.out 3 (by simp [lohi]),NewB.one (Nat.le_succ _),B3.out⟩
theorem BytK.form {b:List UInt8 × Nat} {w:World} {e:Ending} {w':World} (h:BytK b w e w'):∃ A c,e=.returned (.tuple #[.slice A b.1.length c,.int .i64 (b.2:Nat)])/\RdB w' w'.heap.size (.slice A b.1.length c) b.1/\NewB w (.slice A b.1.length c)/\Below w.heap.size w w':=by
 obtain ⟨v,rfl,h1,hn,h2⟩:=h
 obtain ⟨A,c,rfl,_⟩:=h1.form
 exact ⟨A,c,rfl,h1,hn,h2⟩
theorem op80_any (op size v:Nat) (ho:op<256) (hs:size<=2) (hv:v<=65535) (w:World):Calls Tryz.prog 304 #[.int .u8 op,.int .i64 size,.int .u16 v] w (BytsR (opA80 op size v) w):=by
 by_cases h1:size=1
 ·subst h1
  have HB:=LH (fun W=>byteA_any v hv W)
  have hle:=byteA_le v
  by_cases hk:(byteA v).2=0
  ·have hv2:opA80 op 1 v=((bytes80 op (byteA v).1).1,v,(bytes80 op (byteA v).1).2):=by unfold opA80;rw [if_pos rfl,if_neg (fun h=>h hk)]
   have HY:=LH (fun W=>bytes80_any op (byteA v).1 ho (by omega) W)
   rw [hv2]
   rw [hk] at HB
   generalize (byteA v).1=m at *
   have e1:IntKind.u16.wrap (m:Int)=(m:Int):=IntWalk.u16_in _ (by omega)
   go_enter Tryz.func304, Tryz.ntmps304
   go_wp2_with fail
   refine (HB.out _).mono ?_
   rintro e w1 ⟨rfl,rfl⟩
   go_wp2_with fail
   refine (HY.out _).mono ?_
   rintro e w1 hx
   obtain ⟨A,c,rfl,hr,hn,hb⟩:=hx.form
   have HR:=LH hr
   have HN:=LH hn
   clear hr hx hn
   go_wp2_with fail
   go_ret3
   exact ⟨_,rfl,HR.out,HN.out,hb⟩
  ·have hv2:opA80 op 1 v=([],0,(byteA v).2):=by unfold opA80;rw [if_pos rfl,if_pos hk]
   have hk5:(byteA v).2=5:=by
    unfold byteA at hk ⊢
    by_cases h:v / 256≠0/\v<65408
    ·rw [if_pos h]
    ·rw [if_neg h] at hk;exact absurd rfl hk
   rw [hv2,hk5]
   rw [hk5] at HB
   generalize (byteA v).1=m at *
   go_enter Tryz.func304, Tryz.ntmps304
   go_wp2_with fail
   refine (HB.out _).mono ?_
   rintro e w1 ⟨rfl,rfl⟩
   go_wp2_with fail
   go_ret3
   exact ⟨_,rfl,⟨_,_,rfl,Nat.le_refl _,fun h0=>absurd h0 (by simp)⟩,NewB.nil _ _ _,Below.refl _ _⟩
 ·have hv2:opA80 op size v=((bytes80 op v).1,v,(bytes80 op v).2):=by unfold opA80;rw [if_neg h1]
  have HY:=LH (fun W=>bytes80_any op v ho hv W)
  rw [hv2]
  have e0:((size:Int) == 1)=false:=by rw [beq_eq_false_iff_ne];omega
  go_enter Tryz.func304, Tryz.ntmps304
  go_wp2_with fail
  refine (HY.out _).mono ?_
  rintro e w1 hx
  obtain ⟨A,c,rfl,hr,hn,hb⟩:=hx.form
  have HR:=LH hr
  have HN:=LH hn
  clear hr hx hn
  go_wp2_with fail
  go_ret3
  exact ⟨_,rfl,HR.out,HN.out,hb⟩
theorem find1_any (op size v:Nat) (ho:op<256) (hs:size<=2) (hv:v<=65535) (pl:Int) (ba bs:Nat) (w:World) (h1:w.cell? ⟨ba,0,none⟩=some (.int .u8 op)) (h2:w.cell? ⟨bs,0,none⟩=some (.int .i64 size)) :
  Calls Tryz.prog 303 #[.int .i64 pl,.int .u16 v,.pointer (some ⟨ba,0,none⟩),.pointer (some ⟨bs,0,none⟩)] w (BytsR (opA80 op size v) w):=by
 have HO:=LH (fun W=>op80_any op size v ho hs hv W)
 go_enter Tryz.func303, Tryz.ntmps303
 go_wp2_with fail
 refine (HO.out _).mono ?_
 rintro e w1 ⟨u,rfl,hr,hn,hb⟩
 have HR:=LH hr
 have HN:=LH hn
 clear hr hn
 go_wp2_with fail
 go_ret3
 exact ⟨_,rfl,HR.out,HN.out,hb⟩
def RdS (w:World) (B:Nat) (v:Value) (l:List (List UInt8)):Prop:=Rd w B v l.length (l.map strV)
theorem RdS.get {w:World} {B c:Nat} {A:Option Addr} {l:List (List UInt8)} (h:RdS w B (.slice A l.length c) l) (k:Nat) (hk:k<l.length) :
  ∃ g o,A=some ⟨g,o,none⟩/\g<B/\∀ k (hk:k<l.length),w.cell? ⟨g,o+k,none⟩=some (.string ⟨l[k].toArray⟩):=by
 obtain ⟨A',c',h1,h2,h3⟩:=h
 injection h1 with h1 _ _
 subst h1
 obtain ⟨g,o,h4,h5,h6⟩:=h3 (by omega)
 exact ⟨g,o,h4,h5,fun k hk=>h6 k _ (by simp [hk,strV])⟩
theorem RdS.form {w:World} {B:Nat} {v:Value} {l:List (List UInt8)} (h:RdS w B v l):∃ A c,v=.slice A l.length c/\l.length<=c:=Rd.form h
theorem RdS.below {w w':World} {B:Nat} {v:Value} {l:List (List UInt8)} (h:RdS w B v l) (hb:Below B w w'):RdS w' B v l:=Rd.below h hb
theorem RdS.more {w:World} {B B':Nat} {v:Value} {l:List (List UInt8)} (h:RdS w B v l) (hB:B<=B'):RdS w B' v l:=Rd.more h hB
theorem equal_str (l r:List (List UInt8)) (v u:Value) (w:World) (hv:RdS w w.heap.size v l) (hu:RdS w w.heap.size u r) (hl:l.length<=1000000) (hl2:r.length<=1000000) :
  Calls Tryz.prog 305 #[v,u] w fun e w'=>e=.returned (.bool (decide (l=r)))/\∃ n,w'=w.drewN n:=by
 obtain ⟨A,c,rfl,hc⟩:=hv.form
 obtain ⟨B,d,rfl,hd⟩:=hu.form
 by_cases hn:l.length=r.length
 ·have HD:Hid (∀ k (h1:k<l.length) (h2:k<r.length),l.drop k=r.drop k ↔ (l[k]=r[k]/\l.drop (k+1)=r.drop (k+1))):=LH (fun k h1 h2=>by rw [List.drop_eq_getElem_cons h1,List.drop_eq_getElem_cons h2,List.cons.injEq])
  have e0:((l.length:Int) != (r.length:Int))=false:=by simp [hn]
  have HN:=LH hn
  clear hn
  go_enter Tryz.func305, Tryz.ntmps305
  go_wp2_with fail
  go_loopw [13] (fun i wr=>∃ k:Nat,k<=l.length/\i=.int .i64 k/\(∃ n,wr=w.drewN n)/\(l=r ↔ l.drop k=r.drop k)) (fun i _=>l.length - (intOf i).toNat)
  case atStart=>exact ⟨0,Nat.zero_le _,rfl,⟨0,rfl⟩,by simp⟩
  case round=>
   obtain ⟨k,hk,rfl,⟨n,rfl⟩,hi⟩:=hrel
   have HI:=LH hi
   clear hi
   by_cases hlt:k<l.length
   ·have hlt2:k<r.length:=by rw [← HN.out];exact hlt
    obtain ⟨g,o,hA,hg,ck0⟩:=hv.get k hlt
    have ck:=ck0 k hlt
    obtain ⟨g',o',hB,hg',dk0⟩:=hu.get k hlt2
    have dk:=dk0 k hlt2
    clear ck0 dk0
    subst hA hB
    have HX:=LH (HI.out.trans (HD.out k hlt hlt2))
    clear HD HI
    have i0:(0:Int)<=(k:Int):=by omega
    have i1:(k:Int)<(l.length:Int):=by omega
    have i2:(k:Int)<(r.length:Int):=by omega
    by_cases hy:l[k]=r[k]
    ·have e1:(l[k] == r[k])=true:=by simp [hy]
     have HZ:Hid (l=r ↔ l.drop (k+1)=r.drop (k+1)):=LH (by rw [HX.out];simp [hy])
     clear HX hy
     generalize l[k]=y at *
     generalize r[k]=z at *
     go_wp2_with fail
     go_quiet (fail)
     go_wp2_with fail
     exact ⟨⟨k+1,by omega,by simp,⟨_,rfl⟩,HZ.out⟩,by simp [intOf];omega⟩
    ·have e1:(l[k] == r[k])=false:=by simp [hy]
     have HZ:Hid (decide (l=r)=false):=LH (by rw [decide_eq_false_iff_not,HX.out];exact fun h=>hy h.1)
     clear HX hy
     generalize l[k]=y at *
     generalize r[k]=z at *
     go_wp2_with fail
     go_quiet (fail)
     go_wp2_with fail
     go_ret
     exact ⟨ret_bool HZ.out.symm,_,by rw [World.drewN_drewN]⟩
   ·obtain rfl:k=l.length:=by omega
    have HZ:Hid (decide (l=r)=true):=LH (by rw [decide_eq_true_iff,HI.out,List.drop_length,HN.out,List.drop_length])
    clear HI HD
    go_wp2_with fail
    go_ret
    exact ⟨ret_bool HZ.out.symm,_,rfl⟩
 ·have e0:((l.length:Int) != (r.length:Int))=true:=by rw [bne_iff_ne];omega
  have HZ:Hid (decide (l=r)=false):=LH (by rw [decide_eq_false_iff_not];rintro rfl;exact hn rfl)
  clear hn
  go_enter Tryz.func305, Tryz.ntmps305
  go_wp2_with fail
  go_ret
  exact ⟨ret_bool HZ.out.symm,0,rfl⟩
def findP (o:Option Nat):Nat × Bool:=match o with
 | some op=>(op,true)
 | none=>(0,false)
theorem own_lit1 (w:World) (T:TypeId) (u:Value):(w.alloc (.cells #[u] T)).ownsRow w.heap.size T 1 (.slice (some ⟨w.heap.size,0,none⟩) 1 1) 1 [u]:=by
 refine ⟨rfl,.inr ⟨_,1,#[u],rfl,Nat.le_refl _,heap_alloc_new w _,Nat.le_refl _,by decide,rfl,rfl⟩⟩
theorem find_yes (name:List UInt8) (ws:List (List UInt8)) (k:Nat) (hk:k<256) (h:words80 k=name :: ws) (hno:∀ j,j<k->words80 j≠name :: ws):find80 name ws=some k:=by
 unfold find80
 rw [List.find?_eq_some_iff_append]
 refine ⟨by simp [h],List.range k,(List.range' (k+1) (255 - k)),?_,fun a ha=>by have:=hno a (List.mem_range.1 ha);simpa using this⟩
 rw [List.range_eq_range',List.range_eq_range']
 have h1:(256:Nat)=k+(1+(255 - k)):=by omega
 rw [show List.range' 0 256=List.range' 0 (k+(1+(255 - k))) by rw [← h1],← List.range'_append]
 rw [Nat.add_comm 1,List.range'_succ]
 simp
theorem find_no (name:List UInt8) (ws:List (List UInt8)) (hno:∀ j,j<256->words80 j≠name :: ws):find80 name ws=none:=by
 unfold find80
 rw [List.find?_eq_none]
 intro x hx
 have:=hno x (List.mem_range.1 hx)
 simpa using this
theorem wsn_rd {ws:List (List UInt8)} {w:World} {e:Ending} {w':World} (h:WsN w.heap.size ws w e w'):Below w.heap.size w w'/\∃ u,e=.returned u/\RdS w' w'.heap.size u ws:=by
 obtain ⟨hb,h | ⟨_,g,rfl,_,hg,hc⟩⟩:=wsn_cases h
 ·obtain ⟨rfl,rfl⟩:=h
  exact ⟨hb,_,rfl,_,_,rfl,Nat.le_refl _,fun h0=>absurd h0 (by simp)⟩
 ·refine ⟨hb,_,rfl,_,_,rfl,Nat.le_refl _,fun _=>⟨_,_,rfl,hg,fun j u hj=>?_⟩⟩
  have hjl:j<ws.length:=by
   have:=(List.getElem?_eq_some_iff.1 hj).1
   rwa [List.length_map] at this
  rw [List.getElem?_map,List.getElem?_eq_getElem hjl] at hj
  injection hj with hj
  rw [← hj,Nat.zero_add]
  exact hc j hjl
theorem find80_any (name:List UInt8) (ws:List (List UInt8)) (v:Value) (w:World) (hv:RdS w w.heap.size v ws) (hl:ws.length<=1000) :
  Calls Tryz.prog 302 #[.string ⟨name.toArray⟩,v] w fun e w'=>e=.returned (.tuple #[.int .u8 (findP (find80 name ws)).1,.bool (findP (find80 name ws)).2])/\Below w.heap.size w w':=by
 have HO:=LH (own_lit1 w 9 (strV name))
 have B1:=LH ((Below.refl w.heap.size w).alloc (Nat.le_refl _) (.cells #[strV name] 9))
 have HV:=LH (Rd.below hv B1.out)
 obtain ⟨A,c,rfl,hc⟩:=hv.form
 clear hv
 unfold strV at HO B1
 go_enter Tryz.func302, Tryz.ntmps302
 go_wp2_with (at_builtin;refine wpList_append_to _ rfl (.tmp 9) (.tmp 10) 103 rfl w.heap.size 9 _ 1 16 Tryz.underlying103 info_str rfl (by omega) HO.out rfl HV.out rfl (by simp) (fun u hu=>by obtain ⟨x,_,rfl⟩:=List.mem_map.1 hu;rfl) (by omega) (by omega) (by simp) ?_;intro v9 w9 hown9 hbel9 hg9 hv9)
 have B9:=LH (B1.out.trans hbel9)
 have R9:Hid (RdS w9 w9.heap.size v9 (name :: ws)):=LH (by
  have:=Rd.of_own hown9
  unfold RdS
  rw [List.length_cons,Nat.add_comm,List.map_cons]
  exact this)
 clear hown9 hbel9 hg9 hv9 HO HV B1
 obtain ⟨A9,c9,rfl,hc9⟩:=R9.out.form
 generalize (name :: ws).length=N at *
 go_wp2_with fail
 go_loopw [12] (fun i wr=>∃ k:Nat,k<=256/\i=.int .i64 k/\Below w9.heap.size w9 wr/\Hid (∀ j,j<k->words80 j≠name :: ws)) (fun i _=>256 - (intOf i).toNat)
 case atStart=>exact ⟨0,by decide,rfl,Below.refl _ _,LH (fun j hj=>by omega)⟩
 case round=>
  obtain ⟨k,hk,rfl,hbw,hno⟩:=hrel
  have BW:=LH hbw
  clear hbw
  by_cases hlt:k<256
  ·have i1:(k:Int)<256:=by omega
   have e1:IntKind.u8.wrap (k:Int)=(k:Int):=IntWalk.u8_in _ (by omega)
   have HW:=LH (fun W=>words80_any k hlt W)
   have HWL:=LH (words80_len k hlt)
   by_cases he:words80 k=name :: ws
   ·have HF:Hid (find80 name ws=some k):=LH (find_yes name ws k hlt he hno.out)
    have HE:Hid (∀ (u:Value) (W:World),RdS W W.heap.size u (words80 k)->RdS W W.heap.size (.slice A9 N c9) (name :: ws)->Calls Tryz.prog 305 #[u,.slice A9 N c9] W fun e w'=>e=.returned (.bool true)/\∃ n,w'=W.drewN n):=
     LH (fun u W h1 h2=>(equal_str _ _ _ _ W h1 h2 (by have:=HWL.out;omega) (by simp;omega)).mono (fun e w' h=>⟨by rw [h.1,decide_eq_true he],h.2⟩))
    clear hno he
    generalize words80 k=l at *
    go_wp2_with fail
    refine (HW.out _).mono ?_
    rintro e w2 hx
    obtain ⟨hb2,u,rfl,hu⟩:=wsn_rd hx
    have BX:=LH (bthen BW.out hb2)
    have HU:=LH hu
    clear hx hb2 hu
    obtain ⟨A2,c2,rfl,hc2⟩:=HU.out.form
    go_wp2_with fail
    refine (HE.out _ _ HU.out ((R9.out.below BX.out).more BX.out.size)).mono ?_
    rintro e w3 ⟨rfl,n3,rfl⟩
    go_wp2_with fail
    go_ret2
    rw [HF.out]
    exact ⟨rfl,below_dn (B9.out.trans (BX.out.mono B9.out.size)) _⟩
   ·have HNO:Hid (∀ j,j<k+1->words80 j≠name :: ws):=LH (fun j hj=>by
     by_cases hjk:j=k
     ·rw [hjk];exact he
     ·exact hno.out j (by omega))
    have HE:Hid (∀ (u:Value) (W:World),RdS W W.heap.size u (words80 k)->RdS W W.heap.size (.slice A9 N c9) (name :: ws)->Calls Tryz.prog 305 #[u,.slice A9 N c9] W fun e w'=>e=.returned (.bool false)/\∃ n,w'=W.drewN n):=
     LH (fun u W h1 h2=>(equal_str _ _ _ _ W h1 h2 (by have:=HWL.out;omega) (by simp;omega)).mono (fun e w' h=>⟨by rw [h.1,decide_eq_false he],h.2⟩))
    clear hno he
    generalize words80 k=l at *
    go_wp2_with fail
    refine (HW.out _).mono ?_
    rintro e w2 hx
    obtain ⟨hb2,u,rfl,hu⟩:=wsn_rd hx
    have BX:=LH (bthen BW.out hb2)
    have HU:=LH hu
    clear hx hb2 hu
    obtain ⟨A2,c2,rfl,hc2⟩:=HU.out.form
    go_wp2_with fail
    refine (HE.out _ _ HU.out ((R9.out.below BX.out).more BX.out.size)).mono ?_
    rintro e w3 ⟨rfl,n3,rfl⟩
    go_wp2_with fail
    go_roundw
    case rel=>exact ⟨k+1,by omega,by go_num,below_dn BX.out _,HNO.out⟩
    case measure=>simp [intOf];omega
  ·obtain rfl:k=256:=by omega
   have HF:Hid (find80 name ws=none):=LH (find_no name ws hno.out)
   clear hno
   go_wp2_with fail
   go_ret2
   rw [HF.out]
   exact ⟨rfl,B9.out.trans (BW.out.mono B9.out.size)⟩
theorem own_bel {w w':World} {base size n:Nat} {e:TypeId} {v:Value} {xs:List Value} (h:w.ownsRow base e size v n xs) (hb:Below w.heap.size w w'):w'.ownsRow base e size v n xs:=
 ⟨h.1,h.2.imp id fun ⟨g,cap,cur,h1,h2,h3,h4⟩=>⟨g,cap,cur,h1,h2,(hb.block g (loh h3)).trans h3,h4⟩⟩
def eI:Option Nat->Int
 | some k=>(k:Int)
 | none=>-1
theorem lastA_snoc (l:List Ar) (a:Ar):∀ (i:Nat) (e:Option Nat),lastA (l++[a]) i e=if plainA a then some (i+l.length) else lastA l i e:=by
 induction l with
 | nil=>intro i e;simp [lastA]
 | cons x r ih=>
  intro i e
  show lastA (r++[a]) (i+1) _=_
  rw [ih]
  have h1:i+1+r.length=i+(x :: r).length:=by simp;omega
  rw [h1]
  rfl
theorem form80_any' (num:List UInt8) (l:List Ar) (v:Value) (w:World) (hs:ArAt w (· < w.heap.size) v l) (hl:l.length<=1000) :
  Calls Tryz.prog 301 #[v,.string ⟨num.toArray⟩] w fun e w'=>∃ u,e=.returned (.tuple #[u,.int .i64 (eI (lastA l 0 none))])/\RdS w' w'.heap.size u (form80 num l)/\Below w.heap.size w w':=by
 obtain ⟨A,c,rfl,hc,_⟩:=hs.form
 have HS:=LH hs
 clear hs
 go_enter Tryz.func301, Tryz.ntmps301
 go_wp2_with fail
 go_loopw [4,5,10] (fun u e i wr=>∃ k:Nat,k<=l.length/\i=.int .i64 k/\e=.int .i64 (eI (lastA (l.take k) 0 none))/\wr.ownsRow w.heap.size 9 1 u k ((form80 num (l.take k)).map strV)/\Below w.heap.size w wr) (fun _ _ i _=>l.length - (intOf i).toNat)
 case atStart=>exact ⟨0,Nat.zero_le _,rfl,rfl,World.ownsRow_nil _ _ _ _,Below.refl _ _⟩
 case round=>
  obtain ⟨k,hk,rfl,rfl,hown,hbw⟩:=hrel
  have HOW:=LH hown
  have HBW:=LH hbw
  clear hown hbw
  by_cases hlt:k<l.length
  ·have i1:(k:Int)<(l.length:Int):=by omega
   obtain ⟨g,o,sv,rfl,hg,c0,c1,c2,c3,c4,c5,c6,c7,hsub⟩:=HS.out.get k hlt
   obtain ⟨SA,sc,rfl,_,_⟩:=hsub.form
   clear hsub
   have hh:=fun (j:Nat)=>HBW.out.cell (p:=⟨g,o+k * 8+j,none⟩) hg
   rw [← (HBW.out.cell (p:=⟨g,o+k * 8,none⟩) hg)] at c0
   rw [← hh 1] at c1
   rw [← hh 2] at c2
   rw [← hh 3] at c3
   rw [← hh 4] at c4
   rw [← hh 5] at c5
   rw [← hh 6] at c6
   rw [← hh 7] at c7
   have HP:=LH (fun W=>plainA_any l[k] (.slice SA l[k].e.sub.length sc) W)
   have ht:l.take (k+1)=l.take k++[l[k]]:=List.take_succ_eq_append_getElem hlt
   have HF:Hid ((form80 num (l.take (k+1))).map strV=(form80 num (l.take k)).map strV++[strV (if plainA l[k] then num else l[k].w)]):=LH (by rw [ht];unfold form80;rw [List.map_append,List.map_append];rfl)
   have HE:Hid (lastA (l.take (k+1)) 0 none=if plainA l[k] then some k else lastA (l.take k) 0 none):=LH (by rw [ht,lastA_snoc,List.length_take];congr 2;omega)
   generalize (form80 num (l.take k)).map strV=xs at *
   generalize lastA (l.take k) 0 none=ek at *
   clear hh ht
   have O1:=LH (heap_alloc_new wr (.cells #[.string ⟨l[k].w.toArray⟩,.string ⟨l[k].t.toArray⟩,.bool l[k].is,.bool l[k].mem,.string ⟨l[k].e.op.toArray⟩,.int .u16 l[k].e.n,.string ⟨l[k].e.name.toArray⟩,.slice SA l[k].e.sub.length sc] 72))
   have A1:=LH ((Below.refl wr.heap.size wr).alloc (Nat.le_refl _) (.cells #[.string ⟨l[k].w.toArray⟩,.string ⟨l[k].t.toArray⟩,.bool l[k].is,.bool l[k].mem,.string ⟨l[k].e.op.toArray⟩,.int .u16 l[k].e.n,.string ⟨l[k].e.name.toArray⟩,.slice SA l[k].e.sub.length sc] 72))
   cases hp:plainA l[k] with
   | true=>
    rw [hp] at HP HF HE
    generalize l[k]=x at *
    go_wp2_with fail
    refine (HP.out _).mono ?_
    rintro e w2 ⟨rfl,hb2⟩
    have A2:=LH (bthen A1.out hb2)
    have O2:=LH (own_bel HOW.out A2.out)
    have B2:=LH (bthen HBW.out A2.out)
    clear hb2 HOW O1 A1 HP
    go_wp2_with (at_builtin;refine wpList_append_at _ _ rfl rfl (.tmp 17) (.tmp 19) 103 rfl w.heap.size 9 _ 1 16 Tryz.underlying103 info_str rfl (by omega) O2.out rfl [.string ⟨num.toArray⟩] 9 rfl rfl (one_str _) (by omega) (by omega) B2.out.size ?_;intro v9 w9 hown9 hbel9)
    go_roundw
    case rel=>exact ⟨k+1,by omega,by go_num,by rw [HE.out];rfl,by rw [HF.out];exact hown9,B2.out.trans hbel9⟩
    case measure=>simp [intOf];omega
   | false=>
    rw [hp] at HP HF HE
    generalize l[k]=x at *
    go_wp2_with fail
    refine (HP.out _).mono ?_
    rintro e w2 ⟨rfl,hb2⟩
    have A2:=LH (bthen A1.out hb2)
    have O2:=LH (own_bel HOW.out A2.out)
    have B2:=LH (bthen HBW.out A2.out)
    have k0:=coh (i:=0) ((hb2.block wr.heap.size (by simp)).trans O1.out)
    simp at k0
    clear hb2 HOW O1 A1 HP
    go_wp2_with (at_builtin;refine wpList_append_at _ _ rfl rfl (.tmp 22) (.tmp 25) 103 rfl w.heap.size 9 _ 1 16 Tryz.underlying103 info_str rfl (by omega) O2.out rfl [.string ⟨x.w.toArray⟩] 9 rfl rfl (one_str _) (by omega) (by omega) B2.out.size ?_;intro v9 w9 hown9 hbel9)
    go_roundw
    case rel=>exact ⟨k+1,by omega,by go_num,by rw [HE.out];rfl,by rw [HF.out];exact hown9,B2.out.trans hbel9⟩
    case measure=>simp [intOf];omega
  ·obtain rfl:k=l.length:=by omega
   have HR:Hid (RdS wr wr.heap.size u4 (form80 num l)):=LH (by
    have:=Rd.of_own HOW.out
    rw [List.take_length] at this
    unfold RdS
    rw [show (form80 num l).length=l.length by simp [form80]]
    exact this)
   have HE:Hid (lastA (l.take l.length) 0 none=lastA l 0 none):=LH (by rw [List.take_length])
   go_wp2_with fail
   go_ret2
   rw [HE.out]
   exact ⟨_,rfl,HR.out,HBW.out⟩
def TestP (w0:World) (K:FuncId) (caps:Array Value) (l:List Ar) (p:Ar->Bool):Prop:=
 (∀ args W,(callFunc K args).run Tryz.prog W=.ok (.enter K args) W)/\∀ (a:Ar) (v:Value) (W:World),a∈l->Below w0.heap.size w0 W->SubAt W (· < W.heap.size) v a.e.sub ->
  Calls Tryz.prog K (#[arV a v]++caps) W fun e w'=>e=.returned (.bool (p a))/\Below W.heap.size W w'
def idxA (p:Ar->Bool) (l:List Ar):Int:=match l.findIdx? p with
 | some k=>(k:Int)
 | none=>-1
theorem idxA_at (p:Ar->Bool) (l:List Ar) (k:Nat) (hk:k<l.length) (h0:∀ j (hj:j<l.length),j<k->p l[j]=false) (h:p l[k]=true):idxA p l=(k:Int):=by
 unfold idxA
 rw [List.findIdx?_eq_some_iff_getElem.2 ⟨hk,h,fun j hj=>by simp [h0 j (by omega) hj]⟩]
theorem idxA_no (p:Ar->Bool) (l:List Ar) (h0:∀ j (hj:j<l.length),p l[j]=false):idxA p l = -1:=by
 unfold idxA
 rw [List.findIdx?_eq_none_iff.2 (fun x hx=>by obtain ⟨j,hj,rfl⟩:=List.getElem_of_mem hx;exact h0 j hj)]
theorem idxA_any (p:Ar->Bool) (l:List Ar):decide (0<=idxA p l)=l.any p:=by
 unfold idxA
 cases h:l.findIdx? p with
 | some k=>
  obtain ⟨hk,h1,_⟩:=List.findIdx?_eq_some_iff_getElem.1 h
  rw [Bool.eq_iff_iff]
  simp only [decide_eq_true_eq,List.any_eq_true]
  exact ⟨fun _=>⟨_,List.getElem_mem hk,h1⟩,fun _=>by omega⟩
 | none=>
  have:=List.findIdx?_eq_none_iff.1 h
  rw [Bool.eq_iff_iff]
  simp only [decide_eq_true_eq,List.any_eq_true]
  exact ⟨fun h=>absurd h (by decide),fun ⟨x,hx,hp⟩=>by rw [this x hx] at hp;cases hp⟩
theorem idxA_gen (p:Ar->Bool) (l:List Ar) (v:Value) (K:FuncId) (caps:Array Value) (w:World) (hK:TestP w K caps l p) (hs:ArAt w (· < w.heap.size) v l) :
  Calls Tryz.prog 74 #[v,.func (.func K) #[] caps] w fun e w'=>e=.returned (.int .i64 (idxA p l))/\Below w.heap.size w w':=by
 obtain ⟨A,c,rfl,hc,hm2⟩:=hs.form
 unfold maxLen at hm2
 have HS:=LH hs
 have heg:=hK.1
 have HF:=LH hK.2
 have HALLN:=LH (idxA_at p l)
 have HALLY:=LH (idxA_no p l)
 generalize idxA p l=rl at *
 clear hs hK
 go_enter Tryz.func74, Tryz.ntmps74
 go_wp2_with fail
 go_loopw [8] (fun i wr=>∃ k:Nat,k<=l.length/\i=.int .i64 k/\(∀ j (hj:j<l.length),j<k->p l[j]=false)/\Below w.heap.size w wr) (fun i _=>l.length - (intOf i).toNat)
 case atStart=>exact ⟨0,Nat.zero_le _,rfl,fun j _ hj=>absurd hj (by omega),Below.refl _ _⟩
 case round=>
  obtain ⟨k,hk,rfl,hall,hb⟩:=hrel
  have hsz:=hb.size
  have HALL:=LH hall
  clear hall
  by_cases hlt:k<l.length
  ·obtain ⟨g,q,vk,rfl,hgl,c0,c1,c2,c3,c4,c5,c6,c7,hsub⟩:=HS.out.get k hlt
   obtain ⟨vA,vc,rfl,_,_⟩:=hsub.form
   have d0:=(hb.cell (p:=⟨g,q+k * 8,none⟩) hgl).trans c0
   have d1:=(hb.cell (p:=⟨g,q+k * 8+1,none⟩) hgl).trans c1
   have d2:=(hb.cell (p:=⟨g,q+k * 8+2,none⟩) hgl).trans c2
   have d3:=(hb.cell (p:=⟨g,q+k * 8+3,none⟩) hgl).trans c3
   have d4:=(hb.cell (p:=⟨g,q+k * 8+4,none⟩) hgl).trans c4
   have d5:=(hb.cell (p:=⟨g,q+k * 8+5,none⟩) hgl).trans c5
   have d6:=(hb.cell (p:=⟨g,q+k * 8+6,none⟩) hgl).trans c6
   have d7:=(hb.cell (p:=⟨g,q+k * 8+7,none⟩) hgl).trans c7
   have HC:=LH (HF.out l[k] _ wr (List.getElem_mem hlt) hb (hsub.at hb hsz))
   have HN:=LH (HALLN.out k hlt HALL.out)
   have HT:Hid (p l[k]=false->∀ j (hj:j<l.length),j<k+1->p l[j]=false):=LH (fun h j hj hjk=>by
    by_cases e:j=k
    ·subst e;exact h
    ·exact HALL.out j hj (by omega))
   generalize l[k]=x at *
   unfold arV at HC
   clear c0 c1 c2 c3 c4 c5 c6 c7 hsub HALLN
   cases hp:p x with
   | false=>
    rw [hp] at HC
    have HT2:=LH (HT.out hp)
    clear hp HT HN
    go_wp2_with fail
    refine HC.out.mono ?_
    rintro e0 w5 ⟨rfl,hb5⟩
    go_wp2_with fail
    go_roundw
    case rel=>exact ⟨k+1,by omega,by go_num,HT2.out,bthen hb hb5⟩
    case measure=>simp [intOf];omega
   | true=>
    rw [hp] at HC
    have hrl:=HN.out hp
    clear hp HN
    subst hrl
    go_wp2_with fail
    refine HC.out.mono ?_
    rintro e0 w5 ⟨rfl,hb5⟩
    go_wp2_with fail
    go_ret
    exact ⟨rfl,bthen hb hb5⟩
  ·obtain rfl:k=l.length:=by omega
   have hrl:=HALLY.out (fun j hj=>HALL.out j hj hj)
   subst hrl
   go_wp2_with fail
   go_ret
   exact ⟨rfl,hb⟩
theorem contA_gen (p:Ar->Bool) (l:List Ar) (v:Value) (K:FuncId) (caps:Array Value) (w:World) (hK:TestP w K caps l p) (hs:ArAt w (· < w.heap.size) v l) :
  Calls Tryz.prog 37 #[v,.func (.func K) #[] caps] w fun e w'=>e=.returned (.bool (l.any p))/\Below w.heap.size w w':=by
 have HI:=LH (idxA_gen p l v K caps w hK hs)
 have HZ:=LH (idxA_any p l)
 obtain ⟨A,c,rfl,hc⟩:=hs.form
 generalize l.any p=rl at *
 generalize idxA p l=z at *
 clear hs hK
 go_enter Tryz.func37, Tryz.ntmps37
 go_wp2_with fail
 refine HI.out.mono ?_
 rintro e w2 ⟨rfl,hb2⟩
 go_wp2_with fail
 go_ret
 exact ⟨ret_bool HZ.out,hb2⟩
end Go.Proofs.YtbdnbfacalfciaaGreatDoor
