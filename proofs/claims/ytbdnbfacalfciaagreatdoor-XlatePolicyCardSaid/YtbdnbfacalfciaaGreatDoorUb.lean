/- Ub. -/
import Derived.Test.YtbdnbfacalfciaaGreatDoorKa
import Derived.Laws.BitsAllLaws
import Derived.Test.YtbdnbfacalfciaaGreatDoorUa
import Derived.Test.YtbdnbfacalfciaaGreatDoorKd
import Derived.Handy
namespace Go.Proofs.YtbdnbfacalfciaaGreatDoor
set_option maxRecDepth 100000
set_option maxHeartbeats 4000000
open Go.RowKit
theorem mask3:∀ k:Fin 256,k.val &&& 3=k.val % 4:=by decide +kernel
theorem mask1:∀ k:Fin 256,k.val &&& 1=k.val % 2:=by decide +kernel
theorem maskC7:∀ k:Fin 256,k.val &&& 199=k.val / 64 * 64+k.val % 8:=by decide +kernel
theorem maskCF:∀ k:Fin 256,k.val &&& 207=k.val / 64 * 64+k.val % 16:=by decide +kernel
theorem mask38:∀ k:Fin 256,k.val &&& 56=k.val / 8 % 8 * 8:=by decide +kernel
theorem u8_mask {m:Nat} {f:Nat->Nat} (h:∀ k:Fin 256,k.val &&& m=f k.val) (hm:m<256) {x:Int} (h0:0<=x) (h1:x<256):bits .and .u8 x (m:Int)=(f x.toNat:Int):=by
 obtain ⟨n,rfl⟩:=Int.eq_ofNat_of_zero_le h0
 rw [u8_and_nat n m (by omega) hm,h ⟨n,by omega⟩,Int.toNat_natCast]
theorem u8_and3 {x:Int} (h0:0<=x) (h1:x<256):bits .and .u8 x 3=x % 4:=(u8_mask (f:=fun n=>n % 4) mask3 (by decide) h0 h1).trans (by omega)
theorem u8_and1 {x:Int} (h0:0<=x) (h1:x<256):bits .and .u8 x 1=x % 2:=(u8_mask (f:=fun n=>n % 2) mask1 (by decide) h0 h1).trans (by omega)
theorem u8_andC7 {x:Int} (h0:0<=x) (h1:x<256):bits .and .u8 x 199=x / 64 * 64+x % 8:=(u8_mask (f:=fun n=>n / 64 * 64+n % 8) maskC7 (by decide) h0 h1).trans (by omega)
theorem u8_andCF {x:Int} (h0:0<=x) (h1:x<256):bits .and .u8 x 207=x / 64 * 64+x % 16:=(u8_mask (f:=fun n=>n / 64 * 64+n % 16) maskCF (by decide) h0 h1).trans (by omega)
theorem u8_and38 {x:Int} (h0:0<=x) (h1:x<256):bits .and .u8 x 56=x / 8 % 8 * 8:=(u8_mask (f:=fun n=>n / 8 % 8 * 8) mask38 (by decide) h0 h1).trans (by omega)
theorem bits_low (x m:Int):bits .and .u8 x m=bits .and .u8 (x % 256) m:=by
 have h:BitVec.ofInt 8 x=BitVec.ofInt 8 (x % 256):=by
  apply BitVec.eq_of_toInt_eq
  simp only [BitVec.toInt_ofInt]
  exact (Int.emod_bmod x 256).symm
 show IntKind.u8.wrap ((BitVec.ofInt 8 x &&& BitVec.ofInt 8 m).toNat:Int)=IntKind.u8.wrap ((BitVec.ofInt 8 (x % 256) &&& BitVec.ofInt 8 m).toNat:Int)
 rw [h]
theorem u8_and3' (x:Int):bits .and .u8 x 3=x % 4:=by rw [bits_low,u8_and3 (by omega) (by omega)];omega
theorem u8_and1' (x:Int):bits .and .u8 x 1=x % 2:=by rw [bits_low,u8_and1 (by omega) (by omega)];omega
attribute [go_sem] u8_and3' u8_and1'
theorem pick_any (i:Int) (ws:List (List UInt8)) (v:Value) (w:World) (hW:WAt w ws v) (h0:0<=i) (hi:i<ws.length) :
  Calls Tryz.prog 96 #[.int .u8 i,v] w fun e w'=>e=.returned (.string ⟨(pickL ws i.toNat).toArray⟩)/\w=w':=by
 obtain ⟨g,rfl,hg,hc⟩:=hW
 obtain ⟨n,rfl⟩:=Int.eq_ofNat_of_zero_le h0
 have hn:n<ws.length:=by omega
 have c1:=hc n hn
 have e1:pickL ws n=ws[n]:=by simp [pickL,hn]
 rw [Int.toNat_natCast,e1]
 generalize ws[n]=x at *
 clear hc e1
 go_enter Tryz.func96, Tryz.ntmps96
 go_wp2_with fail
 go_ret
 exact ⟨rfl,rfl⟩
theorem pick_new (i:Int) (ws:List (List UInt8)) (n:Nat) (cs:Array Value) (w:World) (h0:0<=i) (hi:i<(n:Int)) (hn:ws.length=n) (hcs:(ws.map fun l=>Value.string ⟨l.toArray⟩).toArray=cs) :
  Calls Tryz.prog 96 #[.int .u8 i,.slice (some ⟨w.heap.size,0,none⟩) n n] (w.alloc (.cells cs 9)) fun e w'=>e=.returned (.string ⟨(pickL ws i.toNat).toArray⟩)/\Below w.heap.size w w':=by
 subst hn hcs
 exact (pick_any i ws _ _ (fields_laid w ws) h0 hi).mono fun _ _ ⟨h1,h2⟩=>⟨h1,h2 ▸ (Below.refl _ _).alloc (Nat.le_refl _) _⟩
theorem reg80_any (op:Int) (h0:0<=op) (h1:op<256) (w:World):Calls Tryz.prog 95 #[.int .u8 op] w fun e w'=>e=.returned (.string ⟨(reg80 op.toNat).toArray⟩)/\Below w.heap.size w w':=by
 obtain ⟨m,rfl⟩:=Int.eq_ofNat_of_zero_le h0
 have e1:((m:Int) % 8).toNat=m % 8:=by omega
 have HP:=LH (pick_new ((m:Int) % 8) regW80 8 _ w (by omega) (by omega) rfl rfl)
 rw [e1] at HP
 rw [Int.toNat_natCast]
 go_enter Tryz.func95, Tryz.ntmps95
 go_wp2_with fail
 refine (HP.out).mono ?_
 rintro e w' ⟨rfl,hb⟩
 go_wp2_with fail
 go_ret
 exact ⟨rfl,hb⟩
theorem pair80_any (op:Int) (h0:0<=op) (h1:op<256) (w:World):Calls Tryz.prog 137 #[.int .u8 op] w fun e w'=>e=.returned (.string ⟨(pair80 op.toNat).toArray⟩)/\Below w.heap.size w w':=by
 obtain ⟨m,rfl⟩:=Int.eq_ofNat_of_zero_le h0
 have e1:((m:Int) % 4).toNat=m % 4:=by omega
 have HP:=LH (pick_new ((m:Int) % 4) pairW80 4 _ w (by omega) (by omega) rfl rfl)
 rw [e1] at HP
 rw [Int.toNat_natCast]
 go_enter Tryz.func137, Tryz.ntmps137
 go_wp2_with fail
 refine (HP.out).mono ?_
 rintro e w' ⟨rfl,hb⟩
 go_wp2_with fail
 go_ret
 exact ⟨rfl,hb⟩
theorem cond80_any (op:Int) (h0:0<=op) (h1:op<256) (w:World):Calls Tryz.prog 138 #[.int .u8 op] w fun e w'=>e=.returned (.string ⟨(cond80 op.toNat).toArray⟩)/\Below w.heap.size w w':=by
 obtain ⟨m,rfl⟩:=Int.eq_ofNat_of_zero_le h0
 have e1:((m:Int) % 8).toNat=m % 8:=by omega
 have HP:=LH (pick_new ((m:Int) % 8) condW80 8 _ w (by omega) (by omega) rfl rfl)
 rw [e1] at HP
 rw [Int.toNat_natCast]
 go_enter Tryz.func138, Tryz.ntmps138
 go_wp2_with fail
 refine (HP.out).mono ?_
 rintro e w' ⟨rfl,hb⟩
 go_wp2_with fail
 go_ret
 exact ⟨rfl,hb⟩
theorem form80_any (v:Value) (w:World) (hv:∃ A n c,v=.slice A n c):Calls Tryz.prog 94 #[v] w fun e w'=>e=.returned v/\w=w':=by
 obtain ⟨A,n,c,rfl⟩:=hv
 go_enter Tryz.func94, Tryz.ntmps94
 go_wp2_with fail
 go_ret
 exact ⟨rfl,rfl⟩
def WsN (B:Nat) (ws:List (List UInt8)) (w:World) (e:Ending) (w':World):Prop:=∃ v,e=.returned v/\(ws = []->v=.slice none 0 0)/\(ws≠[]->∃ g,v=.slice (some ⟨g,0,none⟩) ws.length ws.length/\B<=g/\WAt w' ws v)/\Below B w w'
theorem wsn_row (w w1:World) (ws:List (List UInt8)) (hb:Below w.heap.size w w1) (h0:ws≠[]):WsN w.heap.size ws w (.returned (.slice (some ⟨w1.heap.size,0,none⟩) ws.length ws.length)) (w1.alloc (.cells (ws.map fun l=>Value.string ⟨l.toArray⟩).toArray 9)):=
 ⟨_,rfl,fun h=>absurd h h0,fun _=>⟨_,rfl,hb.size,fields_laid w1 ws⟩,hb.alloc hb.size _⟩
theorem wsn_nil {w w1:World} {ws:List (List UInt8)} (hb:Below w.heap.size w w1) (h:ws = []):WsN w.heap.size ws w (.returned (.slice none 0 0)) w1:=⟨_,rfl,fun _=>rfl,fun h0=>absurd h h0,hb⟩
theorem wsn_1 {w w1:World} {N:Nat} {ws:List (List UInt8)} {a:List UInt8} (hb:Below w.heap.size w w1) (hN:w1.heap.size=N) (h:ws = [a]):WsN w.heap.size ws w (.returned (.slice (some ⟨N,0,none⟩) 1 1)) (w1.alloc (.cells #[.string ⟨a.toArray⟩] 9)):=by
 subst h hN;exact wsn_row w w1 _ hb (by simp)
theorem wsn_2 {w w1:World} {N:Nat} {ws:List (List UInt8)} {a b:List UInt8} (hb:Below w.heap.size w w1) (hN:w1.heap.size=N) (h:ws = [a,b]):WsN w.heap.size ws w (.returned (.slice (some ⟨N,0,none⟩) 2 2)) (w1.alloc (.cells #[.string ⟨a.toArray⟩,.string ⟨b.toArray⟩] 9)):=by
 subst h hN;exact wsn_row w w1 _ hb (by simp)
theorem wsn_3 {w w1:World} {N:Nat} {ws:List (List UInt8)} {a b c:List UInt8} (hb:Below w.heap.size w w1) (hN:w1.heap.size=N) (h:ws = [a,b,c]):WsN w.heap.size ws w (.returned (.slice (some ⟨N,0,none⟩) 3 3)) (w1.alloc (.cells #[.string ⟨a.toArray⟩,.string ⟨b.toArray⟩,.string ⟨c.toArray⟩] 9)):=by
 subst h hN;exact wsn_row w w1 _ hb (by simp)
theorem low80_any (op:Nat) (h:op<64) (w:World):Calls Tryz.prog 93 #[.int .u8 op] w (WsN w.heap.size (low80 op) w):=by
 have HR:=LH (fun W=>reg80_any ((op:Int) / 8) (by omega) (by omega) W)
 have HQ:=LH (fun W=>pair80_any ((op:Int) / 16) (by omega) (by omega) W)
 have HA:=LH (pick_new ((op:Int) / 8) [[82,76,67],[82,82,67],[82,65,76],[82,65,82],[68,65,65],[67,77,65],[83,84,67],[67,77,67]] 8 _ w (by omega) (by omega) rfl rfl)
 have HB:=LH (pick_new ((op:Int) / 8 % 4) [[83,72,76,68],[76,72,76,68],[83,84,65],[76,68,65]] 4 _ w (by omega) (by omega) rfl rfl)
 simp only [List.map_cons,List.map_nil] at HA HB
 rw [show ((op:Int) / 8).toNat=op / 8 by omega] at HR HA
 rw [show ((op:Int) / 16).toNat=op / 16 by omega] at HQ
 rw [show ((op:Int) / 8 % 4).toNat=op / 8 % 4 by omega] at HB
 go_enter Tryz.func93, Tryz.ntmps93
 go_wp2_with (first | ((with_reducible refine (HR.out _).mono ?_);rintro e w' ⟨rfl,hb⟩) | ((with_reducible refine (HQ.out _).mono ?_);rintro e w' ⟨rfl,hb⟩) | ((with_reducible refine (HA.out).mono ?_);rintro e w' ⟨rfl,hb⟩) | ((with_reducible refine (HB.out).mono ?_);rintro e w' ⟨rfl,hb⟩) | ((with_reducible refine (form80_any _ _ ⟨_,_,_,rfl⟩).mono ?_);rintro e w' ⟨rfl,rfl⟩))
 all_goals (
  go_ret
  simp only [beq_iff_eq,beq_eq_false_iff_ne,ne_eq] at *
  first
   | refine wsn_1 ‹_› rfl ?_
   | refine wsn_1 (Below.refl _ _) rfl ?_
   | refine wsn_2 ‹_› rfl ?_
   | refine wsn_3 ‹_› rfl ?_
   | refine wsn_nil (Below.refl _ _) ?_
  unfold low80
  repeat (first | rw [if_pos (by omega)] | rw [if_neg (by omega)])
  )
theorem conv_new1 (W:World) (x:Int) (c:UInt8) (h:x=(c.toNat:Int)) :
  (convert 75 9 (.slice (some ⟨W.heap.size,0,none⟩) 1 1)).run Tryz.prog (W.alloc (.cells #[.int .u8 x] 5))=.ok (.string ⟨#[c]⟩) (W.alloc (.cells #[.int .u8 x] 5)):=by
 subst h
 exact conv_back _ 75 9 5 W.heap.size 0 1 1 [c] Tryz.underlying75 Tryz.underlying5 Tryz.underlying9 rfl (fun j hj=>by
  obtain rfl:j=0:=by simpa using hj
  rw [Nat.zero_add,coh (heap_alloc_new W _)];rfl)
theorem cond80_len (n:Nat):(cond80 n).length<=2:=by
 unfold cond80 pickL
 have h:∀ k:Fin 8,(condW80.getD k.val []).length<=2:=by decide
 exact h ⟨n % 8,Nat.mod_lt _ (by decide)⟩
theorem cond80_mod (n:Nat):cond80 (n % 8)=cond80 n:=by simp [cond80]
theorem high80_any (op:Nat) (h0:192<=op) (h:op<256) (w:World):Calls Tryz.prog 97 #[.int .u8 op] w (WsN w.heap.size (high80 op) w):=by
 have HS:=LH (pick_new ((op:Int) / 16 % 4) [[66],[68],[72],[80,83,87]] 4 _ w (by omega) (by omega) rfl rfl)
 have HC:=LH (fun W=>cond80_any ((op:Int) / 8 % 8) (by omega) (by omega) W)
 have HA:=LH (fun W=>pick_new ((op:Int) / 8 % 8) [[65,68,73],[65,67,73],[83,85,73],[83,66,73],[65,78,73],[88,82,73],[79,82,73],[67,80,73]] 8 _ W (by omega) (by omega) rfl rfl)
 have HB:=LH (fun W=>pick_new ((op:Int) / 16 % 4) [[82,69,84],[45],[80,67,72,76],[83,80,72,76]] 4 _ W (by omega) (by omega) rfl rfl)
 have HD:=LH (fun W=>pick_new ((op:Int) / 8 % 2) [[79,85,84],[73,78]] 2 _ W (by omega) (by omega) rfl rfl)
 have HE:=LH (fun W=>pick_new ((op:Int) / 8 % 4) [[88,84,72,76],[88,67,72,71],[68,73],[69,73]] 4 _ W (by omega) (by omega) rfl rfl)
 simp only [List.map_cons,List.map_nil] at HS HA HB HD HE
 rw [show ((op:Int) / 8 % 8).toNat=op / 8 % 8 by omega] at HC HA
 rw [show ((op:Int) / 16 % 4).toNat=op / 16 % 4 by omega] at HS HB
 rw [show ((op:Int) / 8 % 2).toNat=op / 8 % 2 by omega] at HD
 rw [show ((op:Int) / 8 % 4).toNat=op / 8 % 4 by omega] at HE
 have hcl:¬ 9223372036854775807<1+(cond80 (op / 8 % 8)).length:=by have:=cond80_len (op / 8 % 8);omega
 have hcv:=fun W=>conv_new1 W (48+(op:Int) / 8 % 8) (UInt8.ofNat (48+op / 8 % 8)) (by rw [UInt8.toNat_ofNat'];omega)
 go_enter Tryz.func97, Tryz.ntmps97
 go_wp2_with fail
 refine (HS.out).mono ?_
 rintro e w1 ⟨rfl,hb1⟩
 go_wp2_with (first | ((with_reducible refine (HC.out _).mono ?_);rintro e w' ⟨rfl,hb⟩) | ((with_reducible refine (HA.out _).mono ?_);rintro e w' ⟨rfl,hb⟩) | ((with_reducible refine (HB.out _).mono ?_);rintro e w' ⟨rfl,hb⟩) | ((with_reducible refine (HD.out _).mono ?_);rintro e w' ⟨rfl,hb⟩) | ((with_reducible refine (HE.out _).mono ?_);rintro e w' ⟨rfl,hb⟩) | ((with_reducible refine (form80_any _ _ ⟨_,_,_,rfl⟩).mono ?_);rintro e w' ⟨rfl,rfl⟩))
 all_goals (
  go_ret
  simp only [beq_iff_eq,beq_eq_false_iff_ne,ne_eq] at *
  first
   | refine wsn_1 (bthen hb1 ‹_›) rfl ?_
   | refine wsn_1 hb1 rfl ?_
   | refine wsn_2 (bthen hb1 ‹_›) rfl ?_
   | refine wsn_2 hb1 rfl ?_
   | refine wsn_2 (hb1.alloc hb1.size _) (by simp) ?_
   | refine wsn_nil hb1 ?_
  unfold high80
  repeat (first | rw [if_pos (by omega)] | rw [if_neg (by omega)])
  first | done | simp only [cond80_mod] | simp)
theorem words80_any (op:Nat) (h:op<256) (w:World):Calls Tryz.prog 48 #[.int .u8 op] w (WsN w.heap.size (words80 op) w):=by
 have HL:=LH (fun h1 W=>low80_any op h1 W)
 have HH:=LH (fun h1 W=>high80_any op h1 h W)
 have HR:=LH (fun W=>reg80_any ((op:Int) / 8) (by omega) (by omega) W)
 have HQ:=LH (fun W=>reg80_any (op:Int) (by omega) (by omega) W)
 have HP:=LH (pick_new ((op:Int) / 8 % 8) [[65,68,68],[65,68,67],[83,85,66],[83,66,66],[65,78,65],[88,82,65],[79,82,65],[67,77,80]] 8 _ w (by omega) (by omega) rfl rfl)
 simp only [List.map_cons,List.map_nil] at HP
 rw [show ((op:Int) / 8).toNat=op / 8 by omega] at HR
 rw [show ((op:Int)).toNat=op by omega] at HQ
 rw [show ((op:Int) / 8 % 8).toNat=op / 8 % 8 by omega] at HP
 by_cases c0:op<64
 ·have e0:((op:Int) / 64 == 0)=true:=by rw [beq_iff_eq];omega
  go_enter Tryz.func48, Tryz.ntmps48
  go_wp2_with fail
  refine (HL.out c0 _).mono ?_
  rintro e w1 ⟨v,rfl,h1,h2,hb⟩
  go_wp2_with fail
  go_ret
  have hw:words80 op=low80 op:=by unfold words80;rw [if_pos (by omega)]
  rw [hw]
  exact ⟨v,rfl,h1,h2,hb⟩
 by_cases c1:192<=op
 ·have e0:((op:Int) / 64 == 0)=false:=by rw [beq_eq_false_iff_ne];omega
  have e1:((op:Int) / 64 == 1)=false:=by rw [beq_eq_false_iff_ne];omega
  have e2:((op:Int) / 64 == 2)=false:=by rw [beq_eq_false_iff_ne];omega
  go_enter Tryz.func48, Tryz.ntmps48
  go_wp2_with fail
  refine (HH.out c1 _).mono ?_
  rintro e w1 ⟨v,rfl,h1,h2,hb⟩
  go_wp2_with fail
  go_ret
  have hw:words80 op=high80 op:=by unfold words80;rw [if_neg (by omega),if_neg (by omega),if_neg (by omega)]
  rw [hw]
  exact ⟨v,rfl,h1,h2,hb⟩
 have e0:((op:Int) / 64 == 0)=false:=by rw [beq_eq_false_iff_ne];omega
 go_enter Tryz.func48, Tryz.ntmps48
 go_wp2_with (first | ((with_reducible refine (HP.out).mono ?_);rintro e w' ⟨rfl,hb⟩) | ((with_reducible refine (HR.out _).mono ?_);rintro e w' ⟨rfl,hb⟩;with_reducible refine (HQ.out _).mono ?_;rintro e w' ⟨rfl,hb2⟩) | ((with_reducible refine (HR.out _).mono ?_);rintro e w' ⟨rfl,hb⟩) | ((with_reducible refine (HQ.out _).mono ?_);rintro e w' ⟨rfl,hb2⟩) | ((with_reducible refine (form80_any _ _ ⟨_,_,_,rfl⟩).mono ?_);rintro e w' ⟨rfl,rfl⟩))
 all_goals (
  go_ret
  simp only [beq_iff_eq,beq_eq_false_iff_ne,ne_eq] at *
  first
   | exact absurd ‹_› (by omega)
   | refine wsn_3 (bthen hb hb2) rfl ?_
   | refine wsn_2 (bthen hb hb2) rfl ?_
   | refine wsn_1 (Below.refl _ _) rfl ?_
  unfold words80
  repeat (first | rw [if_pos (by omega)] | rw [if_neg (by omega)]))
theorem words80_len (op:Nat) (h:op<256):(words80 op).length<=3:=by
 have hf:∀ k:Fin 256,(words80 k.val).length<=3:=by decide +kernel
 exact hf ⟨op,h⟩
theorem str_ne {a b:List UInt8} (h:a≠b):(a == b)=false:=by simpa using h
theorem wsn_cases {ws:List (List UInt8)} {w:World} {e:Ending} {w':World} (h:WsN w.heap.size ws w e w'):Below w.heap.size w w'/\((ws = []/\e=.returned (.slice none 0 0))∨(ws≠[]/\∃ g,e=.returned (.slice (some ⟨g,0,none⟩) ws.length ws.length)/\w.heap.size<=g/\g<w'.heap.size/\∀ j (hj:j<ws.length),w'.cell? ⟨g,j,none⟩=some (.string ⟨ws[j].toArray⟩))):=by
 obtain ⟨v,rfl,h1,h2,hb⟩:=h
 refine ⟨hb,?_⟩
 by_cases h0:ws = []
 ·exact .inl ⟨h0,by rw [h1 h0]⟩
 ·obtain ⟨g,rfl,hg,hw⟩:=h2 h0
  obtain ⟨g',he,hg',hc⟩:=hw
  simp only [Value.slice.injEq,Option.some.injEq,Addr.mk.injEq,and_true] at he
  obtain rfl:=he
  exact .inr ⟨h0,g,rfl,hg,hg',hc⟩
def sizeW (ws:List (List UInt8)):Nat:=if ws = [] then 0 else if ws.getLastD []=sD16 then 3 else if ws.getLastD []=sD8 then 2 else 1
theorem size80_any (op:Nat) (h:op<256) (w:World):Calls Tryz.prog 14 #[.int .u8 op] w fun e w'=>e=.returned (.int .i64 (size80 op))/\Below w.heap.size w w':=by
 have HW:=LH ((words80_any op h w).mono fun _ _ h=>wsn_cases h)
 have hl:=words80_len op h
 rw [show size80 op=sizeW (words80 op) from rfl]
 generalize words80 op=ws at *
 by_cases h0:ws = []
 ·subst h0
  go_enter Tryz.func14, Tryz.ntmps14
  go_wp2_with fail
  refine (HW.out).mono ?_
  rintro e w1 ⟨hb,⟨_,rfl⟩ | ⟨h,_⟩⟩
  ·go_wp2_with fail
   go_ret
   exact ⟨rfl,hb⟩
  ·exact absurd rfl h
 ·have l0:0<ws.length:=List.length_pos_iff.2 h0
  have e1:ws[ws.length - 1]? = some (ws.getLastD []):=by
   rw [List.getLastD_eq_getLast?,List.getLast?_eq_getElem?,List.getElem?_eq_getElem (by omega)];simp
  obtain ⟨m,hm⟩:∃ m,ws.length=m+1:=⟨ws.length - 1,by omega⟩
  rw [hm,Nat.add_sub_cancel] at e1
  have HL:=LH e1
  have HM:=LH hm
  have l1:m<=2:=by omega
  have e0:(((m:Int)+1) == 0)=false:=by rw [beq_eq_false_iff_ne];omega
  unfold sizeW
  rw [if_neg h0]
  generalize hz:ws.getLastD []=z at *
  clear hz e1 hl l0 hm
  by_cases hz:z=sD16
  ·subst hz
   go_enter Tryz.func14, Tryz.ntmps14
   go_wp2_with fail
   refine (HW.out).mono ?_
   rintro e w1 ⟨hb,⟨h,_⟩ | ⟨_,g,rfl,hg,hg',hc⟩⟩
   ·exact absurd h h0
   have c1:=hc m (by rw [HM.out];omega)
   have e1:=HL.out
   rw [List.getElem?_eq_getElem (by rw [HM.out];omega)] at e1
   rw [Option.some.inj e1] at c1
   rw [HM.out]
   clear hc e1 h0 HL HW
   go_wp2_with fail
   go_ret
   exact ⟨rfl,hb⟩
  ·have z1:=str_ne hz
   rw [if_neg hz]
   by_cases hy:z=sD8
   ·subst hy
    go_enter Tryz.func14, Tryz.ntmps14
    go_wp2_with fail
    refine (HW.out).mono ?_
    rintro e w1 ⟨hb,⟨h,_⟩ | ⟨_,g,rfl,hg,hg',hc⟩⟩
    ·exact absurd h h0
    have c1:=hc m (by rw [HM.out];omega)
    have e1:=HL.out
    rw [List.getElem?_eq_getElem (by rw [HM.out];omega)] at e1
    rw [Option.some.inj e1] at c1
    rw [HM.out]
    clear hc e1 h0 HL HW hz
    go_wp2_with fail
    go_ret
    exact ⟨rfl,hb⟩
   ·have z2:=str_ne hy
    rw [if_neg hy]
    go_enter Tryz.func14, Tryz.ntmps14
    go_wp2_with fail
    refine (HW.out).mono ?_
    rintro e w1 ⟨hb,⟨h,_⟩ | ⟨_,g,rfl,hg,hg',hc⟩⟩
    ·exact absurd h h0
    have c1:=hc m (by rw [HM.out];omega)
    have e1:=HL.out
    rw [List.getElem?_eq_getElem (by rw [HM.out];omega)] at e1
    rw [Option.some.inj e1] at c1
    rw [HM.out]
    clear hc e1 h0 HL HW hz hy
    go_wp2_with fail
    go_ret
    exact ⟨rfl,hb⟩
theorem condI80_any (op:Nat) (h:op<256) (w:World):Calls Tryz.prog 73 #[.int .u8 op] w fun e w'=>e=.returned (.int .i64 (condI80 op))/\w=w':=by
 unfold condI80
 by_cases c1:op / 64=3
 ·have e1:((op:Int) / 64 == 3)=true:=by rw [beq_iff_eq];omega
  by_cases c2:op % 2=0
  ·have e2:((op:Int) % 2 == 0)=true:=by rw [beq_iff_eq];omega
   by_cases c3:op % 8=6
   ·have e3:((op:Int) % 8 != 6)=false:=by rw [bne_eq_false_iff_eq];omega
    rw [if_neg (by omega)]
    clear c1 c2 c3
    go_enter Tryz.func73, Tryz.ntmps73
    go_wp2_with fail
    go_ret
    exact ⟨rfl,rfl⟩
   ·have e3:((op:Int) % 8 != 6)=true:=by rw [bne_iff_ne];omega
    rw [if_pos (by omega)]
    clear c1 c2 c3
    go_enter Tryz.func73, Tryz.ntmps73
    go_wp2_with fail
    go_ret
    exact ⟨rfl,rfl⟩
  ·have e2:((op:Int) % 2 == 0)=false:=by rw [beq_eq_false_iff_ne];omega
   rw [if_neg (by omega)]
   clear c1 c2
   go_enter Tryz.func73, Tryz.ntmps73
   go_wp2_with fail
   go_ret
   exact ⟨rfl,rfl⟩
 ·have e1:((op:Int) / 64 == 3)=false:=by rw [beq_eq_false_iff_ne];omega
  rw [if_neg (by omega)]
  clear c1
  go_enter Tryz.func73, Tryz.ntmps73
  go_wp2_with fail
  go_ret
  exact ⟨rfl,rfl⟩
theorem condI80_lo (op:Nat):-1<=condI80 op/\condI80 op<=7:=by unfold condI80;split <;> omega
theorem jumps80_any (op:Nat) (h:op<256) (w:World):Calls Tryz.prog 36 #[.int .u8 op] w fun e w'=>e=.returned (.bool (jumps80 op))/\w=w':=by
 have HC:=LH (fun W=>condI80_any op h W)
 unfold jumps80
 by_cases c1:op=195∨op=205
 ·rw [decide_eq_true c1]
  go_enter Tryz.func36, Tryz.ntmps36
  go_wp2_with ((with_reducible refine (HC.out _).mono ?_);rintro e w' ⟨rfl,rfl⟩)
  all_goals (
   go_ret
   first
    | exact ⟨rfl,rfl⟩
    | (simp only [beq_iff_eq,beq_eq_false_iff_ne,ne_eq] at *;omega))
 ·rw [decide_eq_false c1]
  have e1:((op:Int) == 195)=false:=by rw [beq_eq_false_iff_ne];omega
  have e2:((op:Int) == 205)=false:=by rw [beq_eq_false_iff_ne];omega
  have h1:=condI80_lo op
  generalize condI80 op=c at *
  by_cases c2:0<=c
  ·rw [decide_eq_true c2]
   by_cases c3:op % 8=0
   ·have e3:((op:Int) % 8 != 0)=false:=by rw [bne_eq_false_iff_eq];omega
    rw [decide_eq_false (by omega)]
    clear c1 c3
    go_enter Tryz.func36, Tryz.ntmps36
    go_wp2_with fail
    refine (HC.out _).mono ?_
    rintro e w' ⟨rfl,rfl⟩
    go_wp2_with fail
    go_ret
    exact ⟨rfl,rfl⟩
   ·have e3:((op:Int) % 8 != 0)=true:=by rw [bne_iff_ne];omega
    rw [decide_eq_true (by omega)]
    clear c1 c3
    go_enter Tryz.func36, Tryz.ntmps36
    go_wp2_with fail
    refine (HC.out _).mono ?_
    rintro e w' ⟨rfl,rfl⟩
    go_wp2_with fail
    go_ret
    exact ⟨rfl,rfl⟩
  ·rw [decide_eq_false c2]
   clear c1
   go_enter Tryz.func36, Tryz.ntmps36
   go_wp2_with fail
   refine (HC.out _).mono ?_
   rintro e w' ⟨rfl,rfl⟩
   go_wp2_with fail
   go_ret
   exact ⟨rfl,rfl⟩
def RdB (w:World) (B:Nat) (v:Value) (b:List UInt8):Prop:=Rd w B v b.length (b.map bv)
theorem RdB.get {w:World} {B c:Nat} {A:Option Addr} {b:List UInt8} (h:RdB w B (.slice A b.length c) b) (k:Nat) (hk:k<b.length) :
  ∃ g o,A=some ⟨g,o,none⟩/\g<B/\∀ k,k<b.length->w.cell? ⟨g,o+k,none⟩=some (.int .u8 (byteN b k:Int)):=by
 obtain ⟨A',c',h1,h2,h3⟩:=h
 injection h1 with h1 _ _
 subst h1
 obtain ⟨g,o,h4,h5,h6⟩:=h3 (by omega)
 exact ⟨g,o,h4,h5,fun k hk=>h6 k _ (by simp [hk,bv,byteN])⟩
theorem u16_shl_or (a b:Nat) (ha:a<256) (hb:b<256):bits .or .u16 ((a * 256:Nat):Int) (b:Int)=((a * 256+b:Nat):Int):=by
 rw [u16_or_nat _ _ (by omega) (by omega)]
 congr 1
 have:=Nat.two_pow_add_eq_or_of_lt (i:=8) (b:=b) (by omega) a
 rw [show a * 256=2 ^ 8 * a by omega]
 exact this.symm
end Go.Proofs.YtbdnbfacalfciaaGreatDoor
