/- Ub. -/
import Derived.Test.YtagplldaooipmaaGreatDoorKa
import Derived.Laws.BitsAllLaws
import Derived.Test.YtagplldaooipmaaGreatDoorUa
import Derived.Test.YtagplldaooipmaaGreatDoorKd
import Derived.Handy
namespace Go.Proofs.YtagplldaooipmaaGreatDoor
open Go.RowKit
theorem mask3:∀ k:Fin 256,k.val &&& 3=k.val % 4:=by decide +kernel
theorem mask1:∀ k:Fin 256,k.val &&& 1=k.val % 2:=by decide +kernel
theorem maskC7:∀ k:Fin 256,k.val &&& 199=k.val / 64 * 64 + k.val % 8:=by decide +kernel
theorem mask38:∀ k:Fin 256,k.val &&& 56=k.val / 8 % 8 * 8:=by decide +kernel
theorem maskFC:∀ k:Fin 256,k.val &&& 252=k.val / 4 * 4:=by decide +kernel
theorem mask2:∀ k:Fin 256,k.val &&& 2=k.val / 2 % 2 * 2:=by decide +kernel
theorem u8_mask {m:Nat} {f:Nat → Nat} (h:∀ k:Fin 256,k.val &&& m=f k.val) (hm:m < 256) {x:Int} (h0:0 ≤ x) (h1:x < 256):bits .and .u8 x (m:Int)=(f x.toNat:Int):=by
 obtain ⟨n,rfl⟩:=Int.eq_ofNat_of_zero_le h0
 rw [u8_and_nat n m (by omega) hm,h ⟨n,by omega⟩,Int.toNat_natCast]
theorem u8_and3 {x:Int} (h0:0 ≤ x) (h1:x < 256):bits .and .u8 x 3=x % 4:=(u8_mask (f:=fun n=>n % 4) mask3 (by decide) h0 h1).trans (by omega)
theorem u8_and1 {x:Int} (h0:0 ≤ x) (h1:x < 256):bits .and .u8 x 1=x % 2:=(u8_mask (f:=fun n=>n % 2) mask1 (by decide) h0 h1).trans (by omega)
theorem u8_andC7 {x:Int} (h0:0 ≤ x) (h1:x < 256):bits .and .u8 x 199=x / 64 * 64 + x % 8:=(u8_mask (f:=fun n=>n / 64 * 64 + n % 8) maskC7 (by decide) h0 h1).trans (by omega)
theorem u8_and38 {x:Int} (h0:0 ≤ x) (h1:x < 256):bits .and .u8 x 56=x / 8 % 8 * 8:=(u8_mask (f:=fun n=>n / 8 % 8 * 8) mask38 (by decide) h0 h1).trans (by omega)
theorem u8_andFC {x:Int} (h0:0 ≤ x) (h1:x < 256):bits .and .u8 x 252=x / 4 * 4:=(u8_mask (f:=fun n=>n / 4 * 4) maskFC (by decide) h0 h1).trans (by omega)
theorem u8_and2 {x:Int} (h0:0 ≤ x) (h1:x < 256):bits .and .u8 x 2=x / 2 % 2 * 2:=(u8_mask (f:=fun n=>n / 2 % 2 * 2) mask2 (by decide) h0 h1).trans (by omega)
theorem bits_low (x m:Int):bits .and .u8 x m=bits .and .u8 (x % 256) m:=by
 have h:BitVec.ofInt 8 x=BitVec.ofInt 8 (x % 256):=by
  apply BitVec.eq_of_toInt_eq
  simp only [BitVec.toInt_ofInt]
  exact (Int.emod_bmod x 256).symm
 show IntKind.u8.wrap ((BitVec.ofInt 8 x &&& BitVec.ofInt 8 m).toNat:Int)=IntKind.u8.wrap ((BitVec.ofInt 8 (x % 256) &&& BitVec.ofInt 8 m).toNat:Int)
 rw [h]
theorem u8_and3' (x:Int):bits .and .u8 x 3=x % 4:=by rw [bits_low,u8_and3 (by omega) (by omega)];omega
theorem u8_and1' (x:Int):bits .and .u8 x 1=x % 2:=by rw [bits_low,u8_and1 (by omega) (by omega)];omega
attribute [go_sem] u8_and3' u8_and1'
end Go.Proofs.YtagplldaooipmaaGreatDoor
/- isa80: words of opcodes. -/
namespace Go.Proofs.YtagplldaooipmaaGreatDoor
open Go.RowKit
theorem pick_any (i:Int) (ws:List (List UInt8)) (v:Value) (w:World) (hW:WAt w ws v) (h0:0 ≤ i) (hi:i < ws.length) :
  Calls Tryz.prog 155 #[.int .u8 i,v] w fun e w'=>e=.returned (.string ⟨(pickL ws i.toNat).toArray⟩)∧w=w':=by
 obtain ⟨g,rfl,hg,hc⟩:=hW
 obtain ⟨n,rfl⟩:=Int.eq_ofNat_of_zero_le h0
 have hn:n < ws.length:=by omega
 have c1:=hc n hn
 have e1:pickL ws n=ws[n]:=by simp [pickL,hn]
 rw [Int.toNat_natCast,e1]
 generalize ws[n]=x at *
 clear hc e1
 go_enter Tryz.func155, Tryz.ntmps155
 go_wp2_with fail
 go_ret
 exact ⟨rfl,rfl⟩
theorem pick_new (i:Int) (ws:List (List UInt8)) (n:Nat) (cs:Array Value) (w:World) (h0:0 ≤ i) (hi:i < (n:Int)) (hn:ws.length=n) (hcs:(ws.map fun l=>Value.string ⟨l.toArray⟩).toArray=cs) :
  Calls Tryz.prog 155 #[.int .u8 i,.slice (some ⟨w.heap.size,0,none⟩) n n] (w.alloc (.cells cs 9)) fun e w'=>e=.returned (.string ⟨(pickL ws i.toNat).toArray⟩)∧Below w.heap.size w w':=by
 subst hn hcs
 exact (pick_any i ws _ _ (fields_laid w ws) h0 hi).mono fun _ _ ⟨h1,h2⟩=>⟨h1,h2 ▸ (Below.refl _ _).alloc (Nat.le_refl _) _⟩
theorem reg80_any (op:Int) (h0:0 ≤ op) (h1:op < 256) (w:World):Calls Tryz.prog 154 #[.int .u8 op] w fun e w'=>e=.returned (.string ⟨(reg80 op.toNat).toArray⟩)∧Below w.heap.size w w':=by
 obtain ⟨m,rfl⟩:=Int.eq_ofNat_of_zero_le h0
 have e1:((m:Int) % 8).toNat=m % 8:=by omega
 have HP:=Lib.hid (pick_new ((m:Int) % 8) regW80 8 _ w (by omega) (by omega) rfl rfl)
 rw [e1] at HP
 rw [Int.toNat_natCast]
 go_enter Tryz.func154, Tryz.ntmps154
 go_wp2_with fail
 refine (HP.out).mono ?_
 rintro e w' ⟨rfl,hb⟩
 go_wp2_with fail
 go_ret
 exact ⟨rfl,hb⟩
theorem pair80_any (op:Int) (h0:0 ≤ op) (h1:op < 256) (w:World):Calls Tryz.prog 192 #[.int .u8 op] w fun e w'=>e=.returned (.string ⟨(pair80 op.toNat).toArray⟩)∧Below w.heap.size w w':=by
 obtain ⟨m,rfl⟩:=Int.eq_ofNat_of_zero_le h0
 have e1:((m:Int) % 4).toNat=m % 4:=by omega
 have HP:=Lib.hid (pick_new ((m:Int) % 4) pairW80 4 _ w (by omega) (by omega) rfl rfl)
 rw [e1] at HP
 rw [Int.toNat_natCast]
 go_enter Tryz.func192, Tryz.ntmps192
 go_wp2_with fail
 refine (HP.out).mono ?_
 rintro e w' ⟨rfl,hb⟩
 go_wp2_with fail
 go_ret
 exact ⟨rfl,hb⟩
set_option maxRecDepth 100000 in
theorem cond80_any (op:Int) (h0:0 ≤ op) (h1:op < 256) (w:World):Calls Tryz.prog 193 #[.int .u8 op] w fun e w'=>e=.returned (.string ⟨(cond80 op.toNat).toArray⟩)∧Below w.heap.size w w':=by
 obtain ⟨m,rfl⟩:=Int.eq_ofNat_of_zero_le h0
 have e1:((m:Int) % 8).toNat=m % 8:=by omega
 have HP:=Lib.hid (pick_new ((m:Int) % 8) condW80 8 _ w (by omega) (by omega) rfl rfl)
 rw [e1] at HP
 rw [Int.toNat_natCast]
 go_enter Tryz.func193, Tryz.ntmps193
 go_wp2_with fail
 refine (HP.out).mono ?_
 rintro e w' ⟨rfl,hb⟩
 go_wp2_with fail
 go_ret
 exact ⟨rfl,hb⟩
theorem form80_any (v:Value) (w:World) (hv:∃ A n c,v=.slice A n c):Calls Tryz.prog 153 #[v] w fun e w'=>e=.returned v∧w=w':=by
 obtain ⟨A,n,c,rfl⟩:=hv
 go_enter Tryz.func153, Tryz.ntmps153
 go_wp2_with fail
 go_ret
 exact ⟨rfl,rfl⟩
def WsN (B:Nat) (ws:List (List UInt8)) (w:World) (e:Ending) (w':World):Prop:=∃ v,e=.returned v∧(ws = [] → v=.slice none 0 0)∧(ws ≠ [] → ∃ g,v=.slice (some ⟨g,0,none⟩) ws.length ws.length∧B ≤ g∧WAt w' ws v)∧Below B w w'
theorem wsn_row (w w1:World) (ws:List (List UInt8)) (hb:Below w.heap.size w w1) (h0:ws ≠ []):WsN w.heap.size ws w (.returned (.slice (some ⟨w1.heap.size,0,none⟩) ws.length ws.length)) (w1.alloc (.cells (ws.map fun l=>Value.string ⟨l.toArray⟩).toArray 9)):=
 ⟨_,rfl,fun h=>absurd h h0,fun _=>⟨_,rfl,hb.size,fields_laid w1 ws⟩,hb.alloc hb.size _⟩
theorem wsn_nil {w w1:World} {ws:List (List UInt8)} (hb:Below w.heap.size w w1) (h:ws = []):WsN w.heap.size ws w (.returned (.slice none 0 0)) w1:=⟨_,rfl,fun _=>rfl,fun h0=>absurd h h0,hb⟩
theorem wsn_1 {w w1:World} {N:Nat} {ws:List (List UInt8)} {a:List UInt8} (hb:Below w.heap.size w w1) (hN:w1.heap.size=N) (h:ws = [a]):WsN w.heap.size ws w (.returned (.slice (some ⟨N,0,none⟩) 1 1)) (w1.alloc (.cells #[.string ⟨a.toArray⟩] 9)):=by
 subst h hN;exact wsn_row w w1 _ hb (by simp)
theorem wsn_2 {w w1:World} {N:Nat} {ws:List (List UInt8)} {a b:List UInt8} (hb:Below w.heap.size w w1) (hN:w1.heap.size=N) (h:ws = [a,b]):WsN w.heap.size ws w (.returned (.slice (some ⟨N,0,none⟩) 2 2)) (w1.alloc (.cells #[.string ⟨a.toArray⟩,.string ⟨b.toArray⟩] 9)):=by
 subst h hN;exact wsn_row w w1 _ hb (by simp)
theorem wsn_3 {w w1:World} {N:Nat} {ws:List (List UInt8)} {a b c:List UInt8} (hb:Below w.heap.size w w1) (hN:w1.heap.size=N) (h:ws = [a,b,c]):WsN w.heap.size ws w (.returned (.slice (some ⟨N,0,none⟩) 3 3)) (w1.alloc (.cells #[.string ⟨a.toArray⟩,.string ⟨b.toArray⟩,.string ⟨c.toArray⟩] 9)):=by
 subst h hN;exact wsn_row w w1 _ hb (by simp)
set_option maxHeartbeats 2000000 in
set_option maxRecDepth 100000 in
theorem low80_any (op:Nat) (h:op < 64) (w:World):Calls Tryz.prog 152 #[.int .u8 op] w (WsN w.heap.size (low80 op) w):=by
 have HR:=Lib.hid (fun W=>reg80_any ((op:Int) / 8) (by omega) (by omega) W)
 have HQ:=Lib.hid (fun W=>pair80_any ((op:Int) / 16) (by omega) (by omega) W)
 have HA:=Lib.hid (pick_new ((op:Int) / 8) [[82,76,67],[82,82,67],[82,65,76],[82,65,82],[68,65,65],[67,77,65],[83,84,67],[67,77,67]] 8 _ w (by omega) (by omega) rfl rfl)
 have HB:=Lib.hid (pick_new ((op:Int) / 8 % 4) [[83,72,76,68],[76,72,76,68],[83,84,65],[76,68,65]] 4 _ w (by omega) (by omega) rfl rfl)
 simp only [List.map_cons,List.map_nil] at HA HB
 rw [show ((op:Int) / 8).toNat=op / 8 by omega] at HR HA
 rw [show ((op:Int) / 16).toNat=op / 16 by omega] at HQ
 rw [show ((op:Int) / 8 % 4).toNat=op / 8 % 4 by omega] at HB
 go_enter Tryz.func152, Tryz.ntmps152
 go_wp2_with (first | ((with_reducible refine (HR.out _).mono ?_);rintro e w' ⟨rfl,hb⟩) | ((with_reducible refine (HQ.out _).mono ?_);rintro e w' ⟨rfl,hb⟩) | ((with_reducible refine (HA.out).mono ?_);rintro e w' ⟨rfl,hb⟩) | ((with_reducible refine (HB.out).mono ?_);rintro e w' ⟨rfl,hb⟩) | ((with_reducible refine (form80_any _ _ ⟨_,_,_,rfl⟩).mono ?_);rintro e w' ⟨rfl,rfl⟩))
 all_goals (
  go_ret
  simp only [beq_iff_eq,beq_eq_false_iff_ne,ne_eq] at *
  first
   | refine wsn_1 ‹_› rfl ?_
   | refine wsn_1 (Below.refl _ _) rfl ?_
   | refine wsn_2 ‹_› rfl ?_
   | refine wsn_3 ‹_› rfl ?_
   | refine wsn_nil (Below.refl _ _) ?_
  unfold low80
  repeat (first | rw [if_pos (by omega)] | rw [if_neg (by omega)])
  )
theorem conv_new1 (W:World) (x:Int) (c:UInt8) (h:x=(c.toNat:Int)) :
  (convert 22 9 (.slice (some ⟨W.heap.size,0,none⟩) 1 1)).run Tryz.prog (W.alloc (.cells #[.int .u8 x] 5))=.ok (.string ⟨#[c]⟩) (W.alloc (.cells #[.int .u8 x] 5)):=by
 subst h
 exact conv_back _ 22 9 5 W.heap.size 0 1 1 [c] Tryz.underlying22 Tryz.underlying5 Tryz.underlying9 rfl (fun j hj=>by
  obtain rfl:j=0:=by simpa using hj
  rw [Nat.zero_add,cell_of_heap (heap_alloc_new W _)];rfl)
theorem cond80_len (n:Nat):(cond80 n).length ≤ 2:=by
 unfold cond80 pickL
 have h:∀ k:Fin 8,(condW80.getD k.val []).length ≤ 2:=by decide
 exact h ⟨n % 8,Nat.mod_lt _ (by decide)⟩
theorem cond80_mod (n:Nat):cond80 (n % 8)=cond80 n:=by simp [cond80]
set_option maxHeartbeats 4000000 in
set_option maxRecDepth 100000 in
theorem high80_any (op:Nat) (h0:192 ≤ op) (h:op < 256) (w:World):Calls Tryz.prog 156 #[.int .u8 op] w (WsN w.heap.size (high80 op) w):=by
 have HS:=Lib.hid (pick_new ((op:Int) / 16 % 4) [[66],[68],[72],[80,83,87]] 4 _ w (by omega) (by omega) rfl rfl)
 have HC:=Lib.hid (fun W=>cond80_any ((op:Int) / 8 % 8) (by omega) (by omega) W)
 have HA:=Lib.hid (fun W=>pick_new ((op:Int) / 8 % 8) [[65,68,73],[65,67,73],[83,85,73],[83,66,73],[65,78,73],[88,82,73],[79,82,73],[67,80,73]] 8 _ W (by omega) (by omega) rfl rfl)
 have HB:=Lib.hid (fun W=>pick_new ((op:Int) / 16 % 4) [[82,69,84],[45],[80,67,72,76],[83,80,72,76]] 4 _ W (by omega) (by omega) rfl rfl)
 have HD:=Lib.hid (fun W=>pick_new ((op:Int) / 8 % 2) [[79,85,84],[73,78]] 2 _ W (by omega) (by omega) rfl rfl)
 have HE:=Lib.hid (fun W=>pick_new ((op:Int) / 8 % 4) [[88,84,72,76],[88,67,72,71],[68,73],[69,73]] 4 _ W (by omega) (by omega) rfl rfl)
 simp only [List.map_cons,List.map_nil] at HS HA HB HD HE
 rw [show ((op:Int) / 8 % 8).toNat=op / 8 % 8 by omega] at HC HA
 rw [show ((op:Int) / 16 % 4).toNat=op / 16 % 4 by omega] at HS HB
 rw [show ((op:Int) / 8 % 2).toNat=op / 8 % 2 by omega] at HD
 rw [show ((op:Int) / 8 % 4).toNat=op / 8 % 4 by omega] at HE
 have hcl:¬ 9223372036854775807 < 1 + (cond80 (op / 8 % 8)).length:=by have:=cond80_len (op / 8 % 8);omega
 have hcv:=fun W=>conv_new1 W (48 + (op:Int) / 8 % 8) (UInt8.ofNat (48 + op / 8 % 8)) (by rw [UInt8.toNat_ofNat'];omega)
 go_enter Tryz.func156, Tryz.ntmps156
 go_wp2_with fail
 refine (HS.out).mono ?_
 rintro e w1 ⟨rfl,hb1⟩
 go_wp2_with (first | ((with_reducible refine (HC.out _).mono ?_);rintro e w' ⟨rfl,hb⟩) | ((with_reducible refine (HA.out _).mono ?_);rintro e w' ⟨rfl,hb⟩) | ((with_reducible refine (HB.out _).mono ?_);rintro e w' ⟨rfl,hb⟩) | ((with_reducible refine (HD.out _).mono ?_);rintro e w' ⟨rfl,hb⟩) | ((with_reducible refine (HE.out _).mono ?_);rintro e w' ⟨rfl,hb⟩) | ((with_reducible refine (form80_any _ _ ⟨_,_,_,rfl⟩).mono ?_);rintro e w' ⟨rfl,rfl⟩))
 all_goals (
  go_ret
  simp only [beq_iff_eq,beq_eq_false_iff_ne,ne_eq] at *
  first
   | refine wsn_1 (bthen hb1 ‹_›) rfl ?_
   | refine wsn_1 hb1 rfl ?_
   | refine wsn_2 (bthen hb1 ‹_›) rfl ?_
   | refine wsn_2 hb1 rfl ?_
   | refine wsn_2 (hb1.alloc hb1.size _) (by simp) ?_
   | refine wsn_nil hb1 ?_
  unfold high80
  repeat (first | rw [if_pos (by omega)] | rw [if_neg (by omega)])
  first | done | simp only [cond80_mod] | simp)
end Go.Proofs.YtagplldaooipmaaGreatDoor
/- isa80: words, Size, Name, Args, Cond, Jumps, Read. -/
namespace Go.Proofs.YtagplldaooipmaaGreatDoor
open Go.RowKit
set_option maxHeartbeats 2000000 in
set_option maxRecDepth 100000 in
theorem words80_any (op:Nat) (h:op < 256) (w:World):Calls Tryz.prog 114 #[.int .u8 op] w (WsN w.heap.size (words80 op) w):=by
 have HL:=Lib.hid (fun h1 W=>low80_any op h1 W)
 have HH:=Lib.hid (fun h1 W=>high80_any op h1 h W)
 have HR:=Lib.hid (fun W=>reg80_any ((op:Int) / 8) (by omega) (by omega) W)
 have HQ:=Lib.hid (fun W=>reg80_any (op:Int) (by omega) (by omega) W)
 have HP:=Lib.hid (pick_new ((op:Int) / 8 % 8) [[65,68,68],[65,68,67],[83,85,66],[83,66,66],[65,78,65],[88,82,65],[79,82,65],[67,77,80]] 8 _ w (by omega) (by omega) rfl rfl)
 simp only [List.map_cons,List.map_nil] at HP
 rw [show ((op:Int) / 8).toNat=op / 8 by omega] at HR
 rw [show ((op:Int)).toNat=op by omega] at HQ
 rw [show ((op:Int) / 8 % 8).toNat=op / 8 % 8 by omega] at HP
 by_cases c0:op < 64
 ·have e0:((op:Int) / 64 == 0)=true:=by rw [beq_iff_eq];omega
  go_enter Tryz.func114, Tryz.ntmps114
  go_wp2_with fail
  refine (HL.out c0 _).mono ?_
  rintro e w1 ⟨v,rfl,h1,h2,hb⟩
  go_wp2_with fail
  go_ret
  have hw:words80 op=low80 op:=by unfold words80;rw [if_pos (by omega)]
  rw [hw]
  exact ⟨v,rfl,h1,h2,hb⟩
 by_cases c1:192 ≤ op
 ·have e0:((op:Int) / 64 == 0)=false:=by rw [beq_eq_false_iff_ne];omega
  have e1:((op:Int) / 64 == 1)=false:=by rw [beq_eq_false_iff_ne];omega
  have e2:((op:Int) / 64 == 2)=false:=by rw [beq_eq_false_iff_ne];omega
  go_enter Tryz.func114, Tryz.ntmps114
  go_wp2_with fail
  refine (HH.out c1 _).mono ?_
  rintro e w1 ⟨v,rfl,h1,h2,hb⟩
  go_wp2_with fail
  go_ret
  have hw:words80 op=high80 op:=by unfold words80;rw [if_neg (by omega),if_neg (by omega),if_neg (by omega)]
  rw [hw]
  exact ⟨v,rfl,h1,h2,hb⟩
 have e0:((op:Int) / 64 == 0)=false:=by rw [beq_eq_false_iff_ne];omega
 go_enter Tryz.func114, Tryz.ntmps114
 go_wp2_with (first | ((with_reducible refine (HP.out).mono ?_);rintro e w' ⟨rfl,hb⟩) | ((with_reducible refine (HR.out _).mono ?_);rintro e w' ⟨rfl,hb⟩;with_reducible refine (HQ.out _).mono ?_;rintro e w' ⟨rfl,hb2⟩) | ((with_reducible refine (HR.out _).mono ?_);rintro e w' ⟨rfl,hb⟩) | ((with_reducible refine (HQ.out _).mono ?_);rintro e w' ⟨rfl,hb2⟩) | ((with_reducible refine (form80_any _ _ ⟨_,_,_,rfl⟩).mono ?_);rintro e w' ⟨rfl,rfl⟩))
 all_goals (
  go_ret
  simp only [beq_iff_eq,beq_eq_false_iff_ne,ne_eq] at *
  first
   | exact absurd ‹_› (by omega)
   | refine wsn_3 (bthen hb hb2) rfl ?_
   | refine wsn_2 (bthen hb hb2) rfl ?_
   | refine wsn_1 (Below.refl _ _) rfl ?_
  unfold words80
  repeat (first | rw [if_pos (by omega)] | rw [if_neg (by omega)]))
theorem words80_len (op:Nat) (h:op < 256):(words80 op).length ≤ 3:=by
 have hf:∀ k:Fin 256,(words80 k.val).length ≤ 3:=by decide +kernel
 exact hf ⟨op,h⟩
theorem str_ne {a b:List UInt8} (h:a ≠ b):(a == b)=false:=by simpa using h
theorem wsn_cases {ws:List (List UInt8)} {w:World} {e:Ending} {w':World} (h:WsN w.heap.size ws w e w'):Below w.heap.size w w'∧((ws = []∧e=.returned (.slice none 0 0)) ∨ (ws ≠ []∧∃ g,e=.returned (.slice (some ⟨g,0,none⟩) ws.length ws.length)∧w.heap.size ≤ g∧g < w'.heap.size∧∀ j (hj:j < ws.length),w'.cell? ⟨g,j,none⟩=some (.string ⟨ws[j].toArray⟩))):=by
 obtain ⟨v,rfl,h1,h2,hb⟩:=h
 refine ⟨hb,?_⟩
 by_cases h0:ws = []
 ·exact .inl ⟨h0,by rw [h1 h0]⟩
 ·obtain ⟨g,rfl,hg,hw⟩:=h2 h0
  obtain ⟨g',he,hg',hc⟩:=hw
  simp only [Value.slice.injEq,Option.some.injEq,Addr.mk.injEq,and_true] at he
  obtain rfl:=he
  exact .inr ⟨h0,g,rfl,hg,hg',hc⟩
def sizeW (ws:List (List UInt8)):Nat:=if ws = [] then 0 else if ws.getLastD []=sD16 then 3 else if ws.getLastD []=sD8 then 2 else 1
set_option maxHeartbeats 2000000 in
theorem size80_any (op:Nat) (h:op < 256) (w:World):Calls Tryz.prog 112 #[.int .u8 op] w fun e w'=>e=.returned (.int .i64 (size80 op))∧Below w.heap.size w w':=by
 have HW:=Lib.hid ((words80_any op h w).mono fun _ _ h=>wsn_cases h)
 have hl:=words80_len op h
 rw [show size80 op=sizeW (words80 op) from rfl]
 generalize words80 op=ws at *
 by_cases h0:ws = []
 ·subst h0
  go_enter Tryz.func112, Tryz.ntmps112
  go_wp2_with fail
  refine (HW.out).mono ?_
  rintro e w1 ⟨hb,⟨_,rfl⟩ | ⟨h,_⟩⟩
  ·go_wp2_with fail
   go_ret
   exact ⟨rfl,hb⟩
  ·exact absurd rfl h
 ·have l0:0 < ws.length:=List.length_pos_iff.2 h0
  have e1:ws[ws.length - 1]? = some (ws.getLastD []):=by
   rw [List.getLastD_eq_getLast?,List.getLast?_eq_getElem?,List.getElem?_eq_getElem (by omega)];simp
  obtain ⟨m,hm⟩:∃ m,ws.length=m + 1:=⟨ws.length - 1,by omega⟩
  rw [hm,Nat.add_sub_cancel] at e1
  have HL:=Lib.hid e1
  have HM:=Lib.hid hm
  have l1:m ≤ 2:=by omega
  have e0:(((m:Int) + 1) == 0)=false:=by rw [beq_eq_false_iff_ne];omega
  unfold sizeW
  rw [if_neg h0]
  generalize hz:ws.getLastD []=z at *
  clear hz e1 hl l0 hm
  by_cases hz:z=sD16
  ·subst hz
   go_enter Tryz.func112, Tryz.ntmps112
   go_wp2_with fail
   refine (HW.out).mono ?_
   rintro e w1 ⟨hb,⟨h,_⟩ | ⟨_,g,rfl,hg,hg',hc⟩⟩
   ·exact absurd h h0
   have c1:=hc m (by rw [HM.out];omega)
   have e1:=HL.out
   rw [List.getElem?_eq_getElem (by rw [HM.out];omega)] at e1
   rw [Option.some.inj e1] at c1
   rw [HM.out]
   clear hc e1 h0 HL HW
   go_wp2_with fail
   go_ret
   exact ⟨rfl,hb⟩
  ·have z1:=str_ne hz
   rw [if_neg hz]
   by_cases hy:z=sD8
   ·subst hy
    go_enter Tryz.func112, Tryz.ntmps112
    go_wp2_with fail
    refine (HW.out).mono ?_
    rintro e w1 ⟨hb,⟨h,_⟩ | ⟨_,g,rfl,hg,hg',hc⟩⟩
    ·exact absurd h h0
    have c1:=hc m (by rw [HM.out];omega)
    have e1:=HL.out
    rw [List.getElem?_eq_getElem (by rw [HM.out];omega)] at e1
    rw [Option.some.inj e1] at c1
    rw [HM.out]
    clear hc e1 h0 HL HW hz
    go_wp2_with fail
    go_ret
    exact ⟨rfl,hb⟩
   ·have z2:=str_ne hy
    rw [if_neg hy]
    go_enter Tryz.func112, Tryz.ntmps112
    go_wp2_with fail
    refine (HW.out).mono ?_
    rintro e w1 ⟨hb,⟨h,_⟩ | ⟨_,g,rfl,hg,hg',hc⟩⟩
    ·exact absurd h h0
    have c1:=hc m (by rw [HM.out];omega)
    have e1:=HL.out
    rw [List.getElem?_eq_getElem (by rw [HM.out];omega)] at e1
    rw [Option.some.inj e1] at c1
    rw [HM.out]
    clear hc e1 h0 HL HW hz hy
    go_wp2_with fail
    go_ret
    exact ⟨rfl,hb⟩
set_option maxHeartbeats 2000000 in
theorem name80_any (op:Nat) (h:op < 256) (w:World):Calls Tryz.prog 68 #[.int .u8 op] w fun e w'=>e=.returned (.string ⟨(name80 op).toArray⟩)∧Below w.heap.size w w':=by
 have HW:=Lib.hid ((words80_any op h w).mono fun _ _ h=>wsn_cases h)
 have hl:=words80_len op h
 unfold name80
 generalize words80 op=ws at *
 match ws,hl,HW with
 | [],_,HW=>
  go_enter Tryz.func68, Tryz.ntmps68
  go_wp2_with fail
  refine (HW.out).mono ?_
  rintro e w1 ⟨hb,⟨_,rfl⟩ | ⟨h,_⟩⟩
  ·go_wp2_with fail
   go_ret
   exact ⟨rfl,hb⟩
  ·exact absurd rfl h
 | x :: r,hl,HW=>
  have l1:r.length ≤ 2:=by simpa using hl
  simp only [List.headD_cons]
  clear hl
  go_enter Tryz.func68, Tryz.ntmps68
  go_wp2_with fail
  refine (HW.out).mono ?_
  rintro e w1 ⟨hb,⟨h,_⟩ | ⟨_,g,rfl,hg,hg',hc⟩⟩
  ·exact absurd h (by simp)
  have c1:=hc 0 (by simp)
  simp only [List.getElem_cons_zero] at c1
  simp only [List.length_cons]
  clear hc HW
  generalize r.length=m at *
  go_wp2_with fail
  go_ret
  exact ⟨rfl,hb⟩
theorem rd_tail {w:World} {g:Nat} {x:List UInt8} {r:List (List UInt8)} (hg:g < w.heap.size) (hc:∀ j (hj:j < (x :: r).length),w.cell? ⟨g,j,none⟩=some (.string ⟨(x :: r)[j].toArray⟩)) (A:Option Addr) (c:Nat) (hA:0 < r.length → A=some ⟨g,1,none⟩) (hcc:r.length ≤ c):Rd w w.heap.size (.slice A r.length c) r.length (r.map strV):=
 ⟨A,c,rfl,hcc,fun h0=>⟨g,1,hA h0,hg,fun j u hu=>by
   have hj:j < r.length:=by simpa using (List.getElem?_eq_some_iff.1 hu).1
   have h3:=hc (j + 1) (by simp;omega)
   simp [hj] at hu
   rw [Nat.add_comm 1 j,h3,← hu]
   simp [strV]⟩⟩
def ArgsP (w:World) (ws:List (List UInt8)) (e:Ending) (w':World):Prop:=∃ v,e=.returned v∧Rd w' w'.heap.size v ws.length (ws.map strV)∧Below w.heap.size w w'
set_option maxHeartbeats 2000000 in
theorem args80_any (op:Nat) (h:op < 256) (w:World):Calls Tryz.prog 69 #[.int .u8 op] w (ArgsP w (args80 op)):=by
 have HW:=Lib.hid ((words80_any op h w).mono fun _ _ h=>wsn_cases h)
 have hl:=words80_len op h
 unfold args80
 generalize words80 op=ws at *
 match ws,hl,HW with
 | [],_,HW=>
  go_enter Tryz.func69, Tryz.ntmps69
  go_wp2_with fail
  refine (HW.out).mono ?_
  rintro e w1 ⟨hb,⟨_,rfl⟩ | ⟨h,_⟩⟩
  ·go_wp2_with fail
   go_ret
   exact ⟨_,rfl,⟨none,0,rfl,Nat.le_refl _,fun h=>absurd h (by simp)⟩,hb⟩
  ·exact absurd rfl h
 | [x],hl,HW=>
  go_enter Tryz.func69, Tryz.ntmps69
  go_wp2_with fail
  refine (HW.out).mono ?_
  rintro e w1 ⟨hb,⟨h,_⟩ | ⟨_,g,rfl,hg,hg',hc⟩⟩
  ·exact absurd h (by simp)
  have HX:=Lib.hid (rd_tail hg' hc)
  clear hc HW
  go_wp2_with fail
  go_ret
  exact ⟨_,rfl,HX.out _ _ (by simp) (by simp),hb⟩
 | [x,y],hl,HW=>
  go_enter Tryz.func69, Tryz.ntmps69
  go_wp2_with fail
  refine (HW.out).mono ?_
  rintro e w1 ⟨hb,⟨h,_⟩ | ⟨_,g,rfl,hg,hg',hc⟩⟩
  ·exact absurd h (by simp)
  have HX:=Lib.hid (rd_tail hg' hc)
  clear hc HW
  go_wp2_with fail
  go_ret
  exact ⟨_,rfl,HX.out _ _ (by simp) (by simp),hb⟩
 | [x,y,z],hl,HW=>
  go_enter Tryz.func69, Tryz.ntmps69
  go_wp2_with fail
  refine (HW.out).mono ?_
  rintro e w1 ⟨hb,⟨h,_⟩ | ⟨_,g,rfl,hg,hg',hc⟩⟩
  ·exact absurd h (by simp)
  have HX:=Lib.hid (rd_tail hg' hc)
  clear hc HW
  go_wp2_with fail
  go_ret
  exact ⟨_,rfl,HX.out _ _ (by simp) (by simp),hb⟩
 | x :: y :: z :: u :: r,hl,_=>simp at hl
end Go.Proofs.YtagplldaooipmaaGreatDoor
/- isa80: Cond, Jumps, Read. -/
namespace Go.Proofs.YtagplldaooipmaaGreatDoor
open Go.RowKit
set_option maxHeartbeats 1000000 in
theorem condI80_any (op:Nat) (h:op < 256) (w:World):Calls Tryz.prog 113 #[.int .u8 op] w fun e w'=>e=.returned (.int .i64 (condI80 op))∧w=w':=by
 unfold condI80
 by_cases c1:op / 64=3
 ·have e1:((op:Int) / 64 == 3)=true:=by rw [beq_iff_eq];omega
  by_cases c2:op % 2=0
  ·have e2:((op:Int) % 2 == 0)=true:=by rw [beq_iff_eq];omega
   by_cases c3:op % 8=6
   ·have e3:((op:Int) % 8 != 6)=false:=by rw [bne_eq_false_iff_eq];omega
    rw [if_neg (by omega)]
    clear c1 c2 c3
    go_enter Tryz.func113, Tryz.ntmps113
    go_wp2_with fail
    go_ret
    exact ⟨rfl,rfl⟩
   ·have e3:((op:Int) % 8 != 6)=true:=by rw [bne_iff_ne];omega
    rw [if_pos (by omega)]
    clear c1 c2 c3
    go_enter Tryz.func113, Tryz.ntmps113
    go_wp2_with fail
    go_ret
    exact ⟨rfl,rfl⟩
  ·have e2:((op:Int) % 2 == 0)=false:=by rw [beq_eq_false_iff_ne];omega
   rw [if_neg (by omega)]
   clear c1 c2
   go_enter Tryz.func113, Tryz.ntmps113
   go_wp2_with fail
   go_ret
   exact ⟨rfl,rfl⟩
 ·have e1:((op:Int) / 64 == 3)=false:=by rw [beq_eq_false_iff_ne];omega
  rw [if_neg (by omega)]
  clear c1
  go_enter Tryz.func113, Tryz.ntmps113
  go_wp2_with fail
  go_ret
  exact ⟨rfl,rfl⟩
theorem condI80_lo (op:Nat):-1 ≤ condI80 op∧condI80 op ≤ 7:=by unfold condI80;split <;> omega
set_option maxHeartbeats 1000000 in
theorem jumps80_any (op:Nat) (h:op < 256) (w:World):Calls Tryz.prog 67 #[.int .u8 op] w fun e w'=>e=.returned (.bool (jumps80 op))∧w=w':=by
 have HC:=Lib.hid (fun W=>condI80_any op h W)
 unfold jumps80
 by_cases c1:op=195 ∨ op=205
 ·rw [decide_eq_true c1]
  go_enter Tryz.func67, Tryz.ntmps67
  go_wp2_with ((with_reducible refine (HC.out _).mono ?_);rintro e w' ⟨rfl,rfl⟩)
  all_goals (
   go_ret
   first
    | exact ⟨rfl,rfl⟩
    | (simp only [beq_iff_eq,beq_eq_false_iff_ne,ne_eq] at *;omega))
 ·rw [decide_eq_false c1]
  have e1:((op:Int) == 195)=false:=by rw [beq_eq_false_iff_ne];omega
  have e2:((op:Int) == 205)=false:=by rw [beq_eq_false_iff_ne];omega
  have h1:=condI80_lo op
  generalize condI80 op=c at *
  by_cases c2:0 ≤ c
  ·rw [decide_eq_true c2]
   by_cases c3:op % 8=0
   ·have e3:((op:Int) % 8 != 0)=false:=by rw [bne_eq_false_iff_eq];omega
    rw [decide_eq_false (by omega)]
    clear c1 c3
    go_enter Tryz.func67, Tryz.ntmps67
    go_wp2_with fail
    refine (HC.out _).mono ?_
    rintro e w' ⟨rfl,rfl⟩
    go_wp2_with fail
    go_ret
    exact ⟨rfl,rfl⟩
   ·have e3:((op:Int) % 8 != 0)=true:=by rw [bne_iff_ne];omega
    rw [decide_eq_true (by omega)]
    clear c1 c3
    go_enter Tryz.func67, Tryz.ntmps67
    go_wp2_with fail
    refine (HC.out _).mono ?_
    rintro e w' ⟨rfl,rfl⟩
    go_wp2_with fail
    go_ret
    exact ⟨rfl,rfl⟩
  ·rw [decide_eq_false c2]
   clear c1
   go_enter Tryz.func67, Tryz.ntmps67
   go_wp2_with fail
   refine (HC.out _).mono ?_
   rintro e w' ⟨rfl,rfl⟩
   go_wp2_with fail
   go_ret
   exact ⟨rfl,rfl⟩
def RdB (w:World) (B:Nat) (v:Value) (b:List UInt8):Prop:=Rd w B v b.length (b.map bv)
theorem RdB.get {w:World} {B c:Nat} {A:Option Addr} {b:List UInt8} (h:RdB w B (.slice A b.length c) b) (k:Nat) (hk:k < b.length) :
  ∃ g o,A=some ⟨g,o,none⟩∧g < B∧∀ k,k < b.length → w.cell? ⟨g,o + k,none⟩=some (.int .u8 (byteN b k:Int)):=by
 obtain ⟨A',c',h1,h2,h3⟩:=h
 injection h1 with h1 _ _
 subst h1
 obtain ⟨g,o,h4,h5,h6⟩:=h3 (by omega)
 exact ⟨g,o,h4,h5,fun k hk=>h6 k _ (by simp [hk,bv,byteN])⟩
theorem byteN_lt (b:List UInt8) (k:Nat):byteN b k < 256:=UInt8.toNat_lt _
theorem u16_shl_or (a b:Nat) (ha:a < 256) (hb:b < 256):bits .or .u16 ((a * 256:Nat):Int) (b:Int)=((a * 256 + b:Nat):Int):=by
 rw [u16_or_nat _ _ (by omega) (by omega)]
 congr 1
 have:=Nat.two_pow_add_eq_or_of_lt (i:=8) (b:=b) (by omega) a
 rw [show a * 256=2 ^ 8 * a by omega]
 exact this.symm
set_option maxHeartbeats 2000000 in
set_option maxRecDepth 100000 in
theorem read80_any (b:List UInt8) (v:Value) (w:World) (hr:RdB w w.heap.size v b) (hl:b.length ≤ 1000000):Calls Tryz.prog 66 #[v] w fun e w'=>e=.returned (.tuple #[.agg #[.int .u8 (read80 b).1.1,.int .u16 (read80 b).1.2],.int .i64 (read80 b).2.1,.int .i64 (read80 b).2.2])∧Below w.heap.size w w':=by
 obtain ⟨A,c,rfl,hc⟩:=hr.form
 by_cases h0:b = []
 ·subst h0
  go_enter Tryz.func66, Tryz.ntmps66
  go_wp2_with fail
  exact bodyPost_ret (v:=.tuple #[.agg #[.int .u8 0,.int .u16 0],.int .i64 0,.int .i64 2]) (by simp [results,Tryz.results66,go_sem]) rfl ⟨rfl,(Below.refl _ _).alloc (Nat.le_refl _) _⟩
 have hpos:0 < b.length:=List.length_pos_iff.2 h0
 obtain ⟨g,o,rfl,hg,hcell⟩:=hr.get 0 hpos
 have c0:=hcell 0 hpos
 rw [Nat.add_zero] at c0
 have l0:=byteN_lt b 0
 have HS:=Lib.hid (fun W=>size80_any (byteN b 0) l0 W)
 have e0:((b.length:Int) == 0)=false:=by rw [beq_eq_false_iff_ne];omega
 unfold read80
 rw [if_neg h0]
 by_cases h1:size80 (byteN b 0)=0
 ·rw [if_pos h1]
  rw [h1] at HS
  generalize byteN b 0=op at *
  generalize b.length=n at *
  clear h0 h1 hcell
  go_enter Tryz.func66, Tryz.ntmps66
  go_wp2_with fail
  refine (HS.out _).mono ?_
  rintro e w1 ⟨rfl,hb⟩
  have B1:=Lib.hid (bthen ((Below.refl _ _).alloc (Nat.le_refl _) _) hb)
  have C1:=(hb.block w.heap.size (by simp)).trans (heap_alloc_new w _)
  have k0:=cell_of_heap (i:=0) C1
  have k1:=cell_of_heap (i:=1) C1
  have f0:=frozen_of_heap (i:=0) C1
  have f1:=frozen_of_heap (i:=1) C1
  simp at k0 k1 f0 f1
  clear C1 hb HS
  go_wp2_with fail
  exact bodyPost_ret (v:=.tuple #[.agg #[.int .u8 0,.int .u16 0],.int .i64 0,.int .i64 8]) (by simp [results,Tryz.results66,go_sem,k0,k1]) rfl ⟨rfl,(B1.out.setCell (by simp) _).setCell (by simp) _⟩
 rw [if_neg h1]
 have hs:size80 (byteN b 0)=1 ∨ size80 (byteN b 0)=2 ∨ size80 (byteN b 0)=3:=by unfold size80 at h1 ⊢;split at h1 <;> simp_all;split <;> simp_all;split <;> simp_all
 by_cases h2:b.length < size80 (byteN b 0)
 ·rw [if_pos h2]
  generalize size80 (byteN b 0)=s at *
  have e1:((s:Int) == 0)=false:=by rw [beq_eq_false_iff_ne];omega
  generalize byteN b 0=op at *
  generalize b.length=n at *
  clear h0 h1 hcell hs
  go_enter Tryz.func66, Tryz.ntmps66
  go_wp2_with fail
  refine (HS.out _).mono ?_
  rintro e w1 ⟨rfl,hb⟩
  have B1:=Lib.hid (bthen ((Below.refl _ _).alloc (Nat.le_refl _) _) hb)
  have C1:=(hb.block w.heap.size (by simp)).trans (heap_alloc_new w _)
  have k0:=cell_of_heap (i:=0) C1
  have k1:=cell_of_heap (i:=1) C1
  have f0:=frozen_of_heap (i:=0) C1
  have f1:=frozen_of_heap (i:=1) C1
  simp at k0 k1 f0 f1
  clear C1 hb HS
  go_wp2_with fail
  exact bodyPost_ret (v:=.tuple #[.agg #[.int .u8 0,.int .u16 0],.int .i64 0,.int .i64 2]) (by simp [results,Tryz.results66,go_sem,k0,k1]) rfl ⟨rfl,(B1.out.setCell (by simp) _).setCell (by simp) _⟩
 rw [if_neg h2]
 have l1:=byteN_lt b 1
 have l2:=byteN_lt b 2
 have c1:=hcell 1
 have c2:=hcell 2
 unfold n80
 rcases hs with hs | hs | hs
 ·rw [hs] at HS h2 ⊢
  generalize byteN b 0=op at *
  generalize b.length=n at *
  have h2':¬ n < 1:=h2
  clear h0 h1 hcell hs c1 c2
  go_enter Tryz.func66, Tryz.ntmps66
  go_wp2_with fail
  refine (HS.out _).mono ?_
  rintro e w1 ⟨rfl,hb⟩
  have B1:=Lib.hid (bthen ((Below.refl _ _).alloc (Nat.le_refl _) _) hb)
  have C1:=(hb.block w.heap.size (by simp)).trans (heap_alloc_new w _)
  have k0:=cell_of_heap (i:=0) C1
  have k1:=cell_of_heap (i:=1) C1
  have f0:=frozen_of_heap (i:=0) C1
  have f1:=frozen_of_heap (i:=1) C1
  have d0:=(hb.cell (p:=⟨g,o,none⟩) (by simp;omega)).trans ((World.cell?_alloc_lt w (.cells #[.int .u8 0,.int .u16 0] 101) ⟨g,o,none⟩ hg).trans c0)
  simp at k0 k1 f0 f1
  clear C1 hb HS c0
  go_wp2_with fail
  refine wp_loop_rounds 1 ?_
  rw [rounds_succ]
  go_wp2_with fail
  refine bodyPost_ret (v:=.tuple #[.agg #[.int .u8 op,.int .u16 0],.int .i64 1,.int .i64 0]) (by simp [results,Tryz.results66,go_sem,k0,k1]) rfl ⟨rfl,?_⟩
  exact ((B1.out.setCell (by simp) _).setCell (by simp) _).setCell (by simp) _
 ·rw [hs] at HS h2 ⊢
  have q1:=c1 (by omega)
  clear c1
  clear c2
  generalize byteN b 0=op at *
  generalize byteN b 1=x1 at *
  generalize byteN b 2=x2 at *
  generalize b.length=n at *
  have h2':¬ n < 2:=h2
  have s1:bits .or .u16 0 (x1:Int)=(x1:Int):=by have:=u16_shl_or 0 x1 (by omega) l1;simpa using this
  have s2:bits .or .u16 0 (x2:Int)=(x2:Int):=by have:=u16_shl_or 0 x2 (by omega) l2;simpa using this
  have s3:bits .or .u16 ((x2:Int) * 256) (x1:Int)=(x2:Int) * 256 + (x1:Int):=by have:=u16_shl_or x2 x1 l2 l1;simpa using this
  clear h0 h1 hcell hs
  go_enter Tryz.func66, Tryz.ntmps66
  go_wp2_with fail
  refine (HS.out _).mono ?_
  rintro e w1 ⟨rfl,hb⟩
  have B1:=Lib.hid (bthen ((Below.refl _ _).alloc (Nat.le_refl _) _) hb)
  have C1:=(hb.block w.heap.size (by simp)).trans (heap_alloc_new w _)
  have k0:=cell_of_heap (i:=0) C1
  have k1:=cell_of_heap (i:=1) C1
  have f0:=frozen_of_heap (i:=0) C1
  have f1:=frozen_of_heap (i:=1) C1
  have d0:=(hb.cell (p:=⟨g,o,none⟩) (by simp;omega)).trans ((World.cell?_alloc_lt w (.cells #[.int .u8 0,.int .u16 0] 101) ⟨g,o,none⟩ hg).trans c0)
  have d1:=(hb.cell (p:=⟨g,o + 1,none⟩) (by simp;omega)).trans ((World.cell?_alloc_lt w (.cells #[.int .u8 0,.int .u16 0] 101) ⟨g,o + 1,none⟩ hg).trans q1)
  have hne:g ≠ w.heap.size:=by omega
  simp at k0 k1 f0 f1
  have HC1:=Lib.hid C1
  clear C1 hb HS c0 q1
  go_wp2_with fail
  refine wp_loop_rounds 2 ?_
  rw [rounds_succ]
  go_wp2_with fail
  go_region
  go_wp2_with fail
  rw [rounds_succ]
  go_wp2_with fail
  have K0:=heap_set (i:=1) (.int .u16 (x1:Int)) HC1.out
  have K1:=heap_set (i:=0) (.int .u8 (op:Int)) K0
  have K2:=heap_set (i:=0) (.int .u8 (op:Int)) K1
  have K3:=heap_set (i:=1) (.int .u16 (x1:Int)) K2
  have kk0:=cell_of_heap (i:=0) K3
  have kk1:=cell_of_heap (i:=1) K3
  simp at kk0 kk1
  refine bodyPost_ret (v:=.tuple #[.agg #[.int .u8 op,.int .u16 x1],.int .i64 2,.int .i64 0]) (by simp [results,Tryz.results66,go_sem,kk0,kk1]) rfl ⟨rfl,?_⟩
  exact ((((B1.out.setCell (by simp) _).setCell (by simp) _).setCell (by simp) _).setCell (by simp) _).drew
 ·rw [hs] at HS h2 ⊢
  have q1:=c1 (by omega)
  clear c1
  have q2:=c2 (by omega)
  clear c2
  generalize byteN b 0=op at *
  generalize byteN b 1=x1 at *
  generalize byteN b 2=x2 at *
  generalize b.length=n at *
  have h2':¬ n < 3:=h2
  have s1:bits .or .u16 0 (x1:Int)=(x1:Int):=by have:=u16_shl_or 0 x1 (by omega) l1;simpa using this
  have s2:bits .or .u16 0 (x2:Int)=(x2:Int):=by have:=u16_shl_or 0 x2 (by omega) l2;simpa using this
  have s3:bits .or .u16 ((x2:Int) * 256) (x1:Int)=(x2:Int) * 256 + (x1:Int):=by have:=u16_shl_or x2 x1 l2 l1;simpa using this
  clear h0 h1 hcell hs
  go_enter Tryz.func66, Tryz.ntmps66
  go_wp2_with fail
  refine (HS.out _).mono ?_
  rintro e w1 ⟨rfl,hb⟩
  have B1:=Lib.hid (bthen ((Below.refl _ _).alloc (Nat.le_refl _) _) hb)
  have C1:=(hb.block w.heap.size (by simp)).trans (heap_alloc_new w _)
  have k0:=cell_of_heap (i:=0) C1
  have k1:=cell_of_heap (i:=1) C1
  have f0:=frozen_of_heap (i:=0) C1
  have f1:=frozen_of_heap (i:=1) C1
  have d0:=(hb.cell (p:=⟨g,o,none⟩) (by simp;omega)).trans ((World.cell?_alloc_lt w (.cells #[.int .u8 0,.int .u16 0] 101) ⟨g,o,none⟩ hg).trans c0)
  have d1:=(hb.cell (p:=⟨g,o + 1,none⟩) (by simp;omega)).trans ((World.cell?_alloc_lt w (.cells #[.int .u8 0,.int .u16 0] 101) ⟨g,o + 1,none⟩ hg).trans q1)
  have d2:=(hb.cell (p:=⟨g,o + 2,none⟩) (by simp;omega)).trans ((World.cell?_alloc_lt w (.cells #[.int .u8 0,.int .u16 0] 101) ⟨g,o + 2,none⟩ hg).trans q2)
  have hne:g ≠ w.heap.size:=by omega
  simp at k0 k1 f0 f1
  have HC1:=Lib.hid C1
  clear C1 hb HS c0 q1 q2
  go_wp2_with fail
  refine wp_loop_rounds 3 ?_
  rw [rounds_succ]
  go_wp2_with fail
  go_region
  go_wp2_with fail
  rw [rounds_succ]
  go_wp2_with fail
  go_region
  go_wp2_with fail
  rw [rounds_succ]
  go_wp2_with fail
  have K0:=heap_set (i:=1) (.int .u16 (x2:Int)) HC1.out
  have K1:=heap_set (i:=1) (.int .u16 ((x2:Int) * 256 + (x1:Int))) K0
  have K2:=heap_set (i:=0) (.int .u8 (op:Int)) K1
  have K3:=heap_set (i:=0) (.int .u8 (op:Int)) K2
  have K4:=heap_set (i:=1) (.int .u16 ((x2:Int) * 256 + (x1:Int))) K3
  have kk0:=cell_of_heap (i:=0) K4
  have kk1:=cell_of_heap (i:=1) K4
  simp at kk0 kk1
  refine bodyPost_ret (v:=.tuple #[.agg #[.int .u8 op,.int .u16 ((x2:Int) * 256 + (x1:Int))],.int .i64 3,.int .i64 0]) (by simp [results,Tryz.results66,go_sem,kk0,kk1]) rfl ⟨rfl,?_⟩
  exact (((((B1.out.setCell (by simp) _).setCell (by simp) _).setCell (by simp) _).setCell (by simp) _).setCell (by simp) _).drew.drew
end Go.Proofs.YtagplldaooipmaaGreatDoor
