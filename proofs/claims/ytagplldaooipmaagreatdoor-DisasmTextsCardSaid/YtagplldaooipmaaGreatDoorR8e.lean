/- R8e. -/
import Derived.Test.YtagplldaooipmaaGreatDoorR8c
import Derived.Test.YtagplldaooipmaaGreatDoorR8d
import Derived.Test.YtagplldaooipmaaGreatDoorVd
import Derived.Deep.DeepCutAuto
namespace Go.Proofs.YtagplldaooipmaaGreatDoor
open Go.RowKit
def ReadR (b:List UInt8) (w:World) (e:Ending) (w':World):Prop:=∃ r k:Nat × Nat × Nat × Nat × Nat × Nat,(k.2.2.2.2.2=0 ∨ k.2.2.2.2.2=2 ∨ k.2.2.2.2.2=12)∧r=k∧(k.2.2.2.2.2=0 ↔ (read86 b).2.2=0)∧(k.2.2.2.2.2=0 → read86 b=((k.1,k.2.1,k.2.2.1,k.2.2.2.1),k.2.2.2.2.1,0)) ∧
 e=.returned (.tuple #[.agg #[.int .i64 (k.1:Nat),.int .i64 (k.2.1:Nat),.int .i64 (k.2.2.1:Nat),.int .u16 (k.2.2.2.1:Nat)],.int .i64 (k.2.2.2.2.1:Nat),.int .i64 (k.2.2.2.2.2:Nat)])∧Below w.heap.size w w'
theorem ReadR.bad {b:List UInt8} {w w':World} (k:Nat) (hk:k=2 ∨ k=12) (h:(read86 b).2.2 ≠ 0) (hb:Below w.heap.size w w'):ReadR b w (.returned (.tuple #[.agg #[.int .i64 0,.int .i64 0,.int .i64 0,.int .u16 0],.int .i64 0,.int .i64 (k:Nat)])) w':=
 ⟨(0,0,0,0,0,k),(0,0,0,0,0,k),.inr hk,rfl,⟨fun h0=>by simp at h0;omega,fun h0=>absurd h0 h⟩,fun h0=>by simp at h0;omega,rfl,hb⟩
theorem ReadR.good {b:List UInt8} {w w':World} {op d s n size:Nat} (h:read86 b=((op,d,s,n),size,0)) (hb:Below w.heap.size w w'):ReadR b w (.returned (.tuple #[.agg #[.int .i64 (op:Nat),.int .i64 (d:Nat),.int .i64 (s:Nat),.int .u16 (n:Nat)],.int .i64 (size:Nat),.int .i64 0])) w':=
 ⟨(op,d,s,n,size,0),(op,d,s,n,size,0),.inl rfl,rfl,⟨fun _=>by rw [h],fun _=>rfl⟩,fun _=>h,rfl,hb⟩
def NoForm (b:List UInt8) (k d s:Nat):Prop:=∀ op' d' s',1 ≤ op' → op' ≤ 51 → d' ≤ 20 → s' ≤ 20 → (op' < k ∨ (op'=k∧(d' < d ∨ (d'=d∧s' < s)))) → fullR b (heads86 op' d' s')=false
theorem NoForm.first (b:List UInt8):NoForm b 1 0 0:=fun op' d' s' h1 _ _ _ h=>by omega
theorem NoForm.one {b:List UInt8} {k d s:Nat} (h:NoForm b k d s) (hf:fullR b (heads86 k d s)=false):NoForm b k d (s + 1):=fun op' d' s' h1 h2 h3 h4 h5=>by
 by_cases he:op'=k∧d'=d∧s'=s
 ·obtain ⟨rfl,rfl,rfl⟩:=he;exact hf
 ·exact h op' d' s' h1 h2 h3 h4 (by omega)
theorem NoForm.two {b:List UInt8} {k d:Nat} (h:NoForm b k d 21):NoForm b k (d + 1) 0:=fun op' d' s' h1 h2 h3 h4 h5=>h op' d' s' h1 h2 h3 h4 (by omega)
theorem NoForm.three {b:List UInt8} {k:Nat} (h:NoForm b k 21 0):NoForm b (k + 1) 0 0:=fun op' d' s' h1 h2 h3 h4 h5=>h op' d' s' h1 h2 h3 h4 (by omega)
theorem NoForm.all {b:List UInt8} (h:NoForm b 52 0 0):(read86 b).2.2 ≠ 0:=fun h0=>by
 obtain ⟨op,d,s,ho,hd,hs,hf⟩:=read_some b h0
 rw [h op d s ho.1 ho.2 hd hs (by omega)] at hf
 cases hf
theorem full_iff (b:List UInt8) (hb:List Nat) (t:Nat) (h0:hb ≠ []):fullR b (hb,t)=(decide (hb.map UInt8.ofNat=b.take (hb.map UInt8.ofNat).length) && decide (size86 (hb,t) ≤ b.length)):=by
 unfold fullR;simp [h0]
theorem full_first (b:List UInt8) (hb:List Nat) (t:Nat) (h:byteN b 0 ≠ (UInt8.ofNat (hb.getD 0 0)).toNat):fullR b (hb,t)=false:=by
 rw [← Bool.not_eq_true]
 intro hf
 unfold fullR at hf
 simp only [Bool.and_eq_true,Bool.not_eq_true',decide_eq_false_iff_not,decide_eq_true_eq] at hf
 obtain ⟨⟨h1,h2⟩,_⟩:=hf
 cases hb with
 | nil=>exact h1 rfl
 | cons x r=>
  cases b with
  | nil=>simp at h2
  | cons c q=>simp only [List.map_cons,List.length_cons,List.take_succ_cons,List.cons.injEq] at h2;apply h;unfold byteN;simp only [List.getD_cons_zero];rw [h2.1]
theorem fourR {w:World} {h:Nat} {c0 c1 c2 c3:Value} {T:TypeId} (hh:w.heap[h]? = some (.cells #[c0,c1,c2,c3] T (0,0))) :
  (w.cell? ⟨h,0,none⟩=some c0∧w.cell? ⟨h,1,none⟩=some c1∧w.cell? ⟨h,2,none⟩=some c2∧w.cell? ⟨h,3,none⟩=some c3)∧(w.frozen? ⟨h,0,none⟩=false∧w.frozen? ⟨h,1,none⟩=false∧w.frozen? ⟨h,2,none⟩=false∧w.frozen? ⟨h,3,none⟩=false):=
 ⟨⟨cell_of_heap hh,cell_of_heap hh,cell_of_heap hh,cell_of_heap hh⟩,frozen_of_heap hh,frozen_of_heap hh,frozen_of_heap hh,frozen_of_heap hh⟩
theorem tail_three (b:List UInt8) (hb:List Nat) (t n1 n2 n3:Nat) (ht:t ≤ 3) (h1:n1=if t=0 then 0 else byteN b hb.length) (h2:n2=if t=2 then n1 + 256 * byteN b (hb.length + 1) else n1) (h3:n3=if t=3∧127 < n2 then n2 + 65280 else n2):tailN (hb,t) b=n3:=by
 have h:t=0 ∨ t=1 ∨ t=2 ∨ t=3:=by omega
 subst h3 h2 h1
 rcases h with rfl | rfl | rfl | rfl <;> simp [tailN]
 split <;> split <;> omega
set_option maxHeartbeats 32000000 in
set_option maxRecDepth 100000 in
theorem refRead8_any (b:List UInt8) (v:Value) (w:World) (hr:RdB w w.heap.size v b) (hl:b.length ≤ 1000000):Calls Tryz.prog 72 #[v] w (ReadR b w):=by
 obtain ⟨A,c,rfl,hc⟩:=hr.form
 have B1:=Lib.hid ((Below.refl w.heap.size w).alloc (Nat.le_refl _) (.cells #[.int .i64 0,.int .i64 0,.int .i64 0,.int .u16 0] 107))
 have C1:=heap_alloc_new w (.cells #[.int .i64 0,.int .i64 0,.int .i64 0,.int .u16 0] 107)
 by_cases h0:b = []
 ·subst h0
  have k0:=cell_of_heap (i:=0) C1
  have k1:=cell_of_heap (i:=1) C1
  have k2:=cell_of_heap (i:=2) C1
  have k3:=cell_of_heap (i:=3) C1
  have f0:=frozen_of_heap (i:=0) C1
  have f1:=frozen_of_heap (i:=1) C1
  have f2:=frozen_of_heap (i:=2) C1
  have f3:=frozen_of_heap (i:=3) C1
  simp at k0 k1 k2 k3 f0 f1 f2 f3
  go_enter Tryz.func72, Tryz.ntmps72
  go_wp2_with (
   with_reducible refine bodyPost_ret (v:=.tuple #[.agg #[.int .i64 0,.int .i64 0,.int .i64 0,.int .u16 0],.int .i64 0,.int .i64 2]) ?_ ?_ ?_
   ·simp [results,Tryz.results72,go_sem]
   ·rfl
   ·exact ReadR.bad 2 (.inl rfl) (by decide) B1.out)
 have hpos:0 < b.length:=List.length_pos_iff.2 h0
 obtain ⟨g,o,rfl,hg,hcell⟩:=hr.get 0 hpos
 have c0:=hcell 0 hpos
 rw [Nat.add_zero] at c0
 have HCELL:=Lib.hid hcell
 have HR:=Lib.hid hr
 have e0:((b.length:Int) == 0)=false:=by rw [beq_eq_false_iff_ne];omega
 have C1:=Lib.hid C1
 have l0:=byteN_lt b 0
 clear h0 hcell hr
 go_enter Tryz.func72, Tryz.ntmps72
 go_wp2_with fail
 go_loopw [5,6] (fun cv i wr=>∃ (k:Nat) (cb:Bool),1 ≤ k∧k ≤ 52∧i=.int .i64 k∧cv=.bool cb∧NoForm b k 0 0∧wr.heap[w.heap.size]? = some (.cells #[.int .i64 0,.int .i64 0,.int .i64 0,.int .u16 0] 107 (0,0))∧Below w.heap.size w wr) (fun _ i _=>52 - (intOf i).toNat)
 case atStart=>exact ⟨1,false,Nat.le_refl _,by decide,rfl,rfl,NoForm.first b,C1.out,B1.out⟩
 case round=>
  obtain ⟨k,cb,hk1,hk2,rfl,rfl,hno,hbox,hbw⟩:=hrel
  by_cases hk:k ≤ 51
  ·have NO1:=Lib.hid hno
   have BX1:=Lib.hid hbox
   have BW1:=Lib.hid hbw
   clear hno hbox hbw B1 C1
   have hki:(k:Int) ≤ 51:=by omega
   go_wp2_with fail
   go_loopw [5,7] (fun cv i wr=>∃ (d:Nat) (cb:Bool),d ≤ 21∧i=.int .i64 d∧cv=.bool cb∧NoForm b k d 0∧wr.heap[w.heap.size]? = some (.cells #[.int .i64 0,.int .i64 0,.int .i64 0,.int .u16 0] 107 (0,0))∧Below w.heap.size w wr) (fun _ i _=>21 - (intOf i).toNat)
   case atStart=>exact ⟨0,cb,by decide,rfl,rfl,NO1.out,BX1.out,BW1.out⟩
   case round=>
    obtain ⟨d,cb2,hd2,rfl,rfl,hno,hbox,hbw⟩:=hrel
    by_cases hd:d ≤ 20
    ·have NO2:=Lib.hid hno
     have BX2:=Lib.hid hbox
     have BW2:=Lib.hid hbw
     clear hno hbox hbw NO1 BX1 BW1
     have hdi:(d:Int) ≤ 20:=by omega
     go_wp2_with fail
     go_loopw [5,8] (fun cv i wr=>∃ (s:Nat) (cb:Bool),s ≤ 21∧i=.int .i64 s∧cv=.bool cb∧NoForm b k d s∧wr.heap[w.heap.size]? = some (.cells #[.int .i64 0,.int .i64 0,.int .i64 0,.int .u16 0] 107 (0,0))∧Below w.heap.size w wr) (fun _ i _=>21 - (intOf i).toNat)
     case atStart=>exact ⟨0,cb2,by decide,rfl,rfl,NO2.out,BX2.out,BW2.out⟩
     case round=>
      obtain ⟨s,cb3,hs2,rfl,rfl,hno,hbox,hbw⟩:=hrel
      by_cases hs:s ≤ 20
      ·have NO3:=Lib.hid hno
       have BX3:=Lib.hid hbox
       have BW3:=Lib.hid hbw
       clear hno hbox hbw NO2 BX2 BW2
       have hsi:(s:Int) ≤ 20:=by omega
       have HH:=Lib.hid (fun W=>refHead_any k d s hk1 hk hd hs W)
       have HL:=Lib.hid (heads_len k d s)
       have HFU:=Lib.hid (fun (hf:fullR b (heads86 k d s)=true)=>read_full k d s ⟨hk1,hk⟩ hd hs b hf)
       have HNX:=Lib.hid (fun (hf:fullR b (heads86 k d s)=false)=>NO3.out.one hf)
       clear NO3
       generalize heads86 k d s=H at *
       obtain ⟨hb,t⟩:=H
       have hl1:hb.length ≤ 2:=HL.out.1
       have ht3:t ≤ 3:=HL.out.2
       clear HL
       have c00:=(BW3.out.cell (p:=⟨g,o,none⟩) hg).trans c0
       go_wp2_with fail
       refine (HH.out _).mono ?_
       rintro e w2 ⟨hv,rfl,hrd,hb2⟩
       obtain ⟨hA,hc',rfl,hcc⟩:=hrd.form
       rw [List.length_map] at *
       have RD2:Hid (RdB w2 w2.heap.size (.slice hA (hb.map UInt8.ofNat).length hc') (hb.map UInt8.ofNat)):=Lib.hid (by rw [List.length_map];exact hrd)
       have BW4:=Lib.hid (bthen BW3.out hb2)
       have BX4:=Lib.hid ((hb2.block w.heap.size (lt_of_heap BX3.out)).trans BX3.out)
       have c2:=(hb2.cell (p:=⟨g,o,none⟩) (Nat.lt_of_lt_of_le hg BW3.out.size)).trans c00
       clear hrd hb2 HH BW3 BX3 c00
       by_cases hz:hb.length=0
       ·have hz1:((hb.length:Int) == 0)=true:=by rw [beq_iff_eq];omega
        have HN:Hid (NoForm b k d (s + 1)):=Lib.hid (HNX.out (by unfold fullR;simp [List.length_eq_zero_iff.1 hz]))
        clear HNX HFU RD2
        go_wp2_with fail
        go_quiet (fail)
        go_wp2_with fail
        go_roundw
        case rel=>exact ⟨s + 1,cb3,by omega,by go_num,rfl,HN.out,BX4.out,BW4.out.trans ((below_dn (Below.refl _ _) _).mono BW4.out.size)⟩
        case measure=>simp [intOf];omega
       ·have hz1:((hb.length:Int) == 0)=false:=by rw [beq_eq_false_iff_ne];omega
        obtain ⟨g',o',rfl,hg',hcel⟩:=RD2.out.get 0 (by rw [List.length_map];omega)
        have x0:=hcel 0 (by rw [List.length_map];omega)
        rw [Nat.add_zero,show byteN (hb.map UInt8.ofNat) 0=(UInt8.ofNat (hb.getD 0 0)).toNat by unfold byteN;cases hb with | nil=>simp at hz | cons x r=>rfl] at x0
        clear hcel
        have hz2:(0:Int) < (hb.length:Int):=by omega
        have hz3:(0:Int) < (b.length:Int):=by omega
        by_cases hq:byteN b 0=(UInt8.ofNat (hb.getD 0 0)).toNat
        ·have HFI:=Lib.hid (full_iff b hb t (fun h=>by simp [h] at hz))
         rw [← hq] at x0
         clear hz hq
         have q0:(((byteN b 0:Nat):Int) != ((byteN b 0:Nat):Int))=false:=by simp
         have BG1:=Lib.hid (fun n=>refBegins_any b (hb.map UInt8.ofNat) _ _ (w2.drewN n) ((HR.out.below (BW4.out.trans ((below_dn (Below.refl _ _) n).mono BW4.out.size))).more (BW4.out.trans ((below_dn (Below.refl _ _) n).mono BW4.out.size)).size) (RD2.out.below (below_dn (Below.refl _ _) n)) hl (by rw [List.length_map];omega))
         have BG2:=Lib.hid (fun n=>refBegins_any (hb.map UInt8.ofNat) b _ _ (w2.drewN n) (RD2.out.below (below_dn (Below.refl _ _) n)) ((HR.out.below (BW4.out.trans ((below_dn (Below.refl _ _) n).mono BW4.out.size))).more (BW4.out.trans ((below_dn (Below.refl _ _) n).mono BW4.out.size)).size) (by rw [List.length_map];omega) hl)
         rw [List.length_map] at BG1 BG2
         rw [List.length_map] at HFI
         have HB1:Hid (∀ n,Calls Tryz.prog 117 #[.slice (some ⟨g,o,none⟩) b.length c,(.slice (some ⟨g',o',none⟩) hb.length hc')] (w2.drewN n) (fun e w'=>e=.returned (.bool (decide (b=(hb.map UInt8.ofNat).take b.length)))∧∃ m,w'=w2.drewN m)):=Lib.hid (fun n=>(BG1.out n).mono (fun e w' h=>⟨h.1,by obtain ⟨n',h2⟩:=h.2;exact ⟨_,by rw [h2,World.drewN_drewN]⟩⟩))
         have HB2:Hid (∀ n,Calls Tryz.prog 117 #[(.slice (some ⟨g',o',none⟩) hb.length hc'),.slice (some ⟨g,o,none⟩) b.length c] (w2.drewN n) (fun e w'=>e=.returned (.bool (decide (hb.map UInt8.ofNat=b.take hb.length)))∧∃ m,w'=w2.drewN m)):=Lib.hid (fun n=>(BG2.out n).mono (fun e w' h=>⟨h.1,by obtain ⟨n',h2⟩:=h.2;exact ⟨_,by rw [h2,World.drewN_drewN]⟩⟩))
         clear BG1 BG2
         generalize decide (b=(hb.map UInt8.ofNat).take b.length)=p1 at *
         generalize decide (hb.map UInt8.ofNat=b.take hb.length)=p2 at *
         have hgw2:g < w2.heap.size:=Nat.lt_of_lt_of_le hg BW4.out.size
         have HW2:=Lib.hid (fun j (hj:j < b.length)=>(BW4.out.cell (p:=⟨g,o + j,none⟩) hg).trans (HCELL.out j hj))
         have hbx:w.heap.size < w2.heap.size:=lt_of_heap BX4.out
         obtain ⟨⟨k0,k1,k2,k3⟩,f0,f1,f2,f3⟩:=fourR BX4.out
         have HS0:Hid (size86 (hb,t)=hb.length + (if t=0 then 0 else 1) + (if t=2 then 1 else 0)):=Lib.hid (by
          have ht4:t=0 ∨ t=1 ∨ t=2 ∨ t=3:=by omega
          rcases ht4 with rfl | rfl | rfl | rfl <;> simp [size86])
         obtain ⟨sz,hsz⟩:∃ sz,sz=size86 (hb,t):=⟨_,rfl⟩
         rw [← hsz] at HS0 HFU HFI
         clear hsz
         have hszl:sz ≤ 4:=by rw [HS0.out];split <;> split <;> omega
         go_wp2_with fail
         go_quiet (fail)
         go_upto_if 51 with (fail)
         go_cut [11] (fun v wx=>v=.int .i64 ((hb.length + (if t=0 then 0 else 1):Nat):Int)∧wx=w2.drewN nq)
         case first=>
          by_cases ht0:t=0
          ·have j1:((t:Int) != 0)=false:=by rw [bne_eq_false_iff_eq];omega
           have E1:Hid (hb.length + (if t=0 then 0 else 1)=hb.length):=Lib.hid (by rw [if_pos ht0,Nat.add_zero])
           clear ht0
           go_wp2_with fail
           go_meet
           exact ⟨by rw [E1.out],rfl⟩
          ·have j1:((t:Int) != 0)=true:=by rw [bne_iff_ne];omega
           have E1:Hid (hb.length + (if t=0 then 0 else 1)=hb.length + 1):=Lib.hid (by rw [if_neg ht0])
           clear ht0
           go_wp2_with fail
           go_meet
           exact ⟨by rw [E1.out];rfl,rfl⟩
         case rest=>
          obtain ⟨rfl,rfl⟩:=hcut
          have hs1l:hb.length + (if t=0 then 0 else 1) ≤ 3:=by split <;> omega
          obtain ⟨s1,hs1⟩:∃ s1,s1=hb.length + (if t=0 then 0 else 1):=⟨_,rfl⟩
          rw [← hs1] at hs1l HS0 ⊢
          have HS1:=Lib.hid hs1
          clear hs1
          go_upto_if 55 with (fail)
          go_cut [11] (fun v wx=>v=.int .i64 (sz:Int)∧wx=w2.drewN nq)
          case first=>
           by_cases ht2:t=2
           ·have j1:((t:Int) == 2)=true:=by rw [beq_iff_eq];omega
            have E1:Hid (sz=s1 + 1):=Lib.hid (by rw [HS0.out,if_pos ht2])
            clear ht2
            go_wp2_with fail
            go_meet
            exact ⟨by rw [E1.out];rfl,rfl⟩
           ·have j1:((t:Int) == 2)=false:=by rw [beq_eq_false_iff_ne];omega
            have E1:Hid (sz=s1):=Lib.hid (by rw [HS0.out,if_neg ht2];rfl)
            clear ht2
            go_wp2_with fail
            go_meet
            exact ⟨by rw [E1.out],rfl⟩
          case rest=>
           obtain ⟨rfl,rfl⟩:=hcut
           have hsh:b.length < sz ∨ ¬ b.length < sz:=Classical.em _
           go_upto_region 20 with (fail)
           go_cut [77] (fun v wx=>∃ (c9:Bool) (n:Nat),v=.bool c9∧wx=w2.drewN n)
           case first=>
            rcases hsh with hsh | hsh
            ·have z0:(b.length:Int) < (sz:Int):=by omega
             clear HS0 HS1 HFU HFI HNX RD2 HW2 HCELL HR k0 k1 k2 k3 f0 f1 f2 f3 c0 c2 x0 BX4 BW4 hszl hs1l hl1 ht3 l0
             cases p1 <;> cases p2
             all_goals (
              go_wp2_with (first | ((with_reducible refine (HB1.out _).mono ?_);rintro e w3 ⟨rfl,n3,rfl⟩) | ((with_reducible refine (HB2.out _).mono ?_);rintro e w4 ⟨rfl,n4,rfl⟩))
              go_meet
              exact ⟨_,_,rfl,by first | rfl | simp⟩)
            ·have z0:decide ((b.length:Int) < (sz:Int))=false:=by simp;omega
             have z1:sz ≤ b.length:=by omega
             clear HS0 HS1 HFU HFI HNX RD2 HW2 HCELL HR k0 k1 k2 k3 f0 f1 f2 f3 c0 c2 x0 BX4 BW4 hszl hs1l hl1 ht3 l0
             cases p1 <;> cases p2
             all_goals (
              go_wp2_with (first | ((with_reducible refine (HB1.out _).mono ?_);rintro e w3 ⟨rfl,n3,rfl⟩) | ((with_reducible refine (HB2.out _).mono ?_);rintro e w4 ⟨rfl,n4,rfl⟩))
              go_meet
              exact ⟨_,_,rfl,by first | rfl | simp⟩)
           case rest=>
            obtain ⟨c9,n9,rfl,rfl⟩:=hcut
            go_upto_if 77 with (fail)
            go_cut [5] (fun v wx=>∃ c8:Bool,v=.bool c8∧wx=w2.drewN n9)
            case first=>
             cases c9
             ·go_wp2_with fail
              go_meet
              exact ⟨_,rfl,rfl⟩
             ·go_wp2_with fail
              go_meet
              exact ⟨_,rfl,rfl⟩
            case rest=>
             obtain ⟨c8,rfl,rfl⟩:=hcut
             cases p2
             ·have HN:Hid (NoForm b k d (s + 1)):=Lib.hid (HNX.out (by rw [HFI.out];simp))
              clear HNX HFU HFI RD2 HW2 HS0
              go_wp2_with (first | ((with_reducible refine (HB1.out _).mono ?_);rintro e w3 ⟨rfl,n3,rfl⟩) | ((with_reducible refine (HB2.out _).mono ?_);rintro e w4 ⟨rfl,n4,rfl⟩))
              go_roundw
              case rel=>exact ⟨s + 1,c8,by omega,by go_num,rfl,HN.out,BX4.out,below_dn BW4.out _⟩
              case measure=>simp [intOf];omega
             ·rcases hsh with hsh | hsh
              ·have HN:Hid (NoForm b k d (s + 1)):=Lib.hid (HNX.out (by rw [HFI.out,decide_eq_false (by omega)];simp))
               have z0:(b.length:Int) < (sz:Int):=by omega
               clear HNX HFU HFI RD2 HW2 HS0
               go_wp2_with (first | ((with_reducible refine (HB1.out _).mono ?_);rintro e w3 ⟨rfl,n3,rfl⟩) | ((with_reducible refine (HB2.out _).mono ?_);rintro e w4 ⟨rfl,n4,rfl⟩))
               go_roundw
               case rel=>exact ⟨s + 1,c8,by omega,by go_num,rfl,HN.out,BX4.out,below_dn BW4.out _⟩
               case measure=>simp [intOf];omega
              ·have hrd:=HFU.out (by rw [HFI.out,decide_eq_true (by omega)];simp)
               have z0:decide ((b.length:Int) < (sz:Int))=false:=by simp;omega
               have z1:sz ≤ b.length:=by omega
               have Y1:=Lib.hid (fun (h:hb.length < b.length)=>HW2.out hb.length h)
               have Y2:=Lib.hid (fun (h:hb.length + 1 < b.length)=>HW2.out (hb.length + 1) h)
               have HT3:=Lib.hid (fun n1 n2 n3=>tail_three b hb t n1 n2 n3 ht3)
               have b1:=byteN_lt b hb.length
               have b2:=byteN_lt b (hb.length + 1)
               have L1:Hid (t ≠ 0 → hb.length < b.length):=Lib.hid (fun h=>by have:=HS0.out;rw [HS1.out,if_neg h] at this;omega)
               have L2:Hid (t=2 → hb.length + 1 < b.length):=Lib.hid (fun h=>by have:=HS0.out;rw [HS1.out,if_neg (by omega),if_pos h] at this;omega)
               have HRD:=Lib.hid hrd
               clear hrd HNX HFU HFI RD2 hsh HW2 HS0 HS1
               generalize byteN b hb.length=y at *
               generalize byteN b (hb.length + 1)=z at *
               obtain ⟨n1,hn1⟩:∃ n1,n1=if t=0 then 0 else y:=⟨_,rfl⟩
               obtain ⟨n2,hn2⟩:∃ n2,n2=if t=2 then n1 + 256 * z else n1:=⟨_,rfl⟩
               obtain ⟨n3,hn3⟩:∃ n3,n3=if t=3∧127 < n2 then n2 + 65280 else n2:=⟨_,rfl⟩
               rw [HT3.out n1 n2 n3 hn1 hn2 hn3] at HRD
               have N1:=Lib.hid hn1
               have N2:=Lib.hid hn2
               have N3:=Lib.hid hn3
               have n1l:n1 ≤ 255:=by rw [hn1];split <;> omega
               have n2l:n2 ≤ 65535:=by rw [hn2];split <;> omega
               have n3l:n3 ≤ 65535:=by rw [hn3];split <;> (rw [hn2] at *;split <;> omega)
               clear hn1 hn2 hn3 HT3
               go_upto_if 89 with (first | ((with_reducible refine (HB1.out _).mono ?_);rintro e w3 ⟨rfl,n3,rfl⟩) | ((with_reducible refine (HB2.out _).mono ?_);rintro e w4 ⟨rfl,n4,rfl⟩))
               go_cut [12] (fun v wx=>v=.int .u16 (n1:Int)∧∃ n,wx=w2.drewN n)
               case first=>
                by_cases ht0:t=0
                ·have j1:((t:Int) != 0)=false:=by rw [bne_eq_false_iff_eq];omega
                 have E1:Hid (n1=0):=Lib.hid (by rw [N1.out,if_pos ht0])
                 clear ht0
                 go_wp2_with fail
                 go_meet
                 exact ⟨by rw [E1.out];rfl,_,rfl⟩
                ·have j1:((t:Int) != 0)=true:=by rw [bne_iff_ne];omega
                 have E1:Hid (n1=y):=Lib.hid (by rw [N1.out,if_neg ht0])
                 have j2:(hb.length:Int) < (b.length:Int):=by have:=L1.out ht0;omega
                 have y1:=Y1.out (L1.out ht0)
                 clear ht0 Y1 Y2 L1 L2 N1 N2 N3
                 go_wp2_with fail
                 go_meet
                 exact ⟨by rw [E1.out],_,rfl⟩
               case rest=>
                obtain ⟨rfl,n10,rfl⟩:=hcut
                clear N1 Y1 L1
                go_upto_if 97 with (fail)
                go_cut [12] (fun v wx=>v=.int .u16 (n2:Int)∧∃ n,wx=w2.drewN n)
                case first=>
                 by_cases ht2:t=2
                 ·have j1:((t:Int) == 2)=true:=by rw [beq_iff_eq];omega
                  have E1:(n2:Int)=(n1:Int) + (z:Int) * 256:=by have:=N2.out;rw [if_pos ht2] at this;omega
                  have m1:IntKind.u16.wrap ((z:Int) * 256)=(z:Int) * 256:=IntWalk.u16_in _ (by omega)
                  have m2:IntKind.u16.wrap ((n1:Int) + (z:Int) * 256)=(n2:Int):=by rw [IntWalk.u16_in _ (by omega)];omega
                  have j2:(hb.length:Int) + 1 < (b.length:Int):=by have:=L2.out ht2;omega
                  have y2:=Y2.out (L2.out ht2)
                  clear ht2 Y2 L2 N2 N3 E1
                  go_wp2_with fail
                  go_meet
                  exact ⟨rfl,_,rfl⟩
                 ·have j1:((t:Int) == 2)=false:=by rw [beq_eq_false_iff_ne];omega
                  have E1:Hid (n2=n1):=Lib.hid (by rw [N2.out,if_neg ht2])
                  clear ht2
                  go_wp2_with fail
                  go_meet
                  exact ⟨by rw [E1.out],_,rfl⟩
                case rest=>
                 obtain ⟨rfl,n11,rfl⟩:=hcut
                 clear N2 Y2 L2
                 go_upto_region 28 with (fail)
                 go_cut [113] (fun v wx=>v=.bool (decide (t=3∧127 < n2))∧∃ n,wx=w2.drewN n)
                 case first=>
                  by_cases ht3':t=3
                  ·have j1:((t:Int) == 3)=true:=by rw [beq_iff_eq];omega
                   by_cases h7:127 < n2
                   ·have j2:(127:Int) < (n2:Int):=by omega
                    have E1:Hid (decide (t=3∧127 < n2)=true):=Lib.hid (decide_eq_true ⟨ht3',h7⟩)
                    clear ht3' h7
                    go_wp2_with fail
                    go_meet
                    exact ⟨by rw [E1.out],_,rfl⟩
                   ·have j2:decide ((127:Int) < (n2:Int))=false:=by simp;omega
                    have E1:Hid (decide (t=3∧127 < n2)=false):=Lib.hid (decide_eq_false (fun h=>h7 h.2))
                    clear ht3' h7
                    go_wp2_with fail
                    go_meet
                    exact ⟨by rw [E1.out],_,rfl⟩
                  ·have j1:((t:Int) == 3)=false:=by rw [beq_eq_false_iff_ne];omega
                   have E1:Hid (decide (t=3∧127 < n2)=false):=Lib.hid (decide_eq_false (fun h=>ht3' h.1))
                   clear ht3'
                   go_wp2_with fail
                   go_meet
                   exact ⟨by rw [E1.out],_,rfl⟩
                 case rest=>
                  obtain ⟨rfl,n12,rfl⟩:=hcut
                  generalize hc3:decide (t=3∧127 < n2)=c3 at *
                  have HC3:=Lib.hid hc3
                  clear hc3
                  go_upto_if 113 with (fail)
                  go_cut [12] (fun v wx=>v=.int .u16 (n3:Int)∧∃ n,wx=w2.drewN n)
                  case first=>
                   cases c3
                   ·have E1:Hid (n3=n2):=Lib.hid (by rw [N3.out,if_neg (of_decide_eq_false HC3.out)])
                    clear HC3 N3
                    go_wp2_with fail
                    go_meet
                    exact ⟨by rw [E1.out],_,rfl⟩
                   ·have E1:n3=n2 + 65280:=by rw [N3.out,if_pos (of_decide_eq_true HC3.out)]
                    have m2:IntKind.u16.wrap ((n2:Int) + 65280)=(n3:Int):=by rw [IntWalk.u16_in _ (by omega)];omega
                    clear HC3 N3 E1
                    go_wp2_with fail
                    go_meet
                    exact ⟨rfl,_,rfl⟩
                  case rest=>
                   obtain ⟨rfl,n13,rfl⟩:=hcut
                   clear HC3 N3
                   go_wp2_with (
                    with_reducible refine bodyPost_ret (v:=.tuple #[.agg #[.int .i64 (k:Int),.int .i64 (d:Int),.int .i64 (s:Int),.int .u16 (n3:Int)],.int .i64 (sz:Int),.int .i64 0]) ?_ ?_ ?_
                    ·simp [results,Tryz.results72,go_sem,k0,k1,k2,k3] <;> omega
                    ·rfl
                    ·exact ReadR.good HRD.out (((((below_dn BW4.out _).setCell (Nat.le_refl _) _).setCell (Nat.le_refl _) _).setCell (Nat.le_refl _) _).setCell (Nat.le_refl _) _))
        ·have q0:(((UInt8.ofNat (hb.getD 0 0)).toNat:Int) != ((byteN b 0:Nat):Int))=true:=by rw [bne_iff_ne];omega
         have HN:Hid (NoForm b k d (s + 1)):=Lib.hid (HNX.out (full_first b hb t hq))
         clear HNX HFU RD2 hq hz
         generalize (UInt8.ofNat (hb.getD 0 0)).toNat=y0 at *
         go_wp2_with fail
         go_quiet (fail)
         go_wp2_with fail
         go_roundw
         case rel=>exact ⟨s + 1,cb3,by omega,by go_num,rfl,HN.out,BX4.out,BW4.out.trans ((below_dn (Below.refl _ _) _).mono BW4.out.size)⟩
         case measure=>simp [intOf];omega
      ·obtain rfl:s=21:=by omega
       have HN:Hid (NoForm b k (d + 1) 0):=Lib.hid hno.two
       have BX4:=Lib.hid hbox
       have BW4:=Lib.hid hbw
       clear hno hbox hbw
       go_wp2_with fail
       go_roundw
       case rel=>exact ⟨d + 1,cb3,by omega,by go_num,rfl,HN.out,BX4.out,BW4.out⟩
       case measure=>simp [intOf];omega
    ·obtain rfl:d=21:=by omega
     have HN:Hid (NoForm b (k + 1) 0 0):=Lib.hid hno.three
     have BX4:=Lib.hid hbox
     have BW4:=Lib.hid hbw
     clear hno hbox hbw
     go_wp2_with fail
     go_roundw
     case rel=>exact ⟨k + 1,cb2,by omega,by omega,by go_num,rfl,HN.out,BX4.out,BW4.out⟩
     case measure=>simp [intOf];omega
  ·obtain rfl:k=52:=by omega
   have HN:Hid ((read86 b).2.2 ≠ 0):=Lib.hid hno.all
   have C3:=hbox
   have BX4:=Lib.hid hbw
   have C4:=Lib.hid hbox
   clear hno hbox hbw
   have k0:=cell_of_heap (i:=0) C3
   have k1:=cell_of_heap (i:=1) C3
   have k2:=cell_of_heap (i:=2) C3
   have k3:=cell_of_heap (i:=3) C3
   have f0:=frozen_of_heap (i:=0) C3
   have f1:=frozen_of_heap (i:=1) C3
   have f2:=frozen_of_heap (i:=2) C3
   have f3:=frozen_of_heap (i:=3) C3
   simp at k0 k1 k2 k3 f0 f1 f2 f3
   clear C3
   cases cb
   ·obtain ⟨m0,m1,m2,m3⟩:=four_set (W:=wr) (.int .i64 0) (.int .i64 0) (.int .i64 0) (.int .u16 0) C4.out
    have M4:=Lib.hid (And.intro m0 (And.intro m1 (And.intro m2 m3)))
    clear m0 m1 m2 m3
    go_wp2_with (
     with_reducible refine bodyPost_ret (v:=.tuple #[.agg #[.int .i64 0,.int .i64 0,.int .i64 0,.int .u16 0],.int .i64 0,.int .i64 12]) ?_ ?_ ?_
     ·obtain ⟨m0,m1,m2,m3⟩:=M4.out
      simp [results,Tryz.results72,go_sem,m0,m1,m2,m3]
     ·rfl
     ·exact (ReadR.bad 12 (.inr rfl) HN.out ((((BX4.out.setCell (Nat.le_refl _) _).setCell (Nat.le_refl _) _).setCell (Nat.le_refl _) _).setCell (Nat.le_refl _) _)))
   ·obtain ⟨m0,m1,m2,m3⟩:=four_set (W:=wr) (.int .i64 0) (.int .i64 0) (.int .i64 0) (.int .u16 0) C4.out
    have M4:=Lib.hid (And.intro m0 (And.intro m1 (And.intro m2 m3)))
    clear m0 m1 m2 m3
    go_wp2_with (
     with_reducible refine bodyPost_ret (v:=.tuple #[.agg #[.int .i64 0,.int .i64 0,.int .i64 0,.int .u16 0],.int .i64 0,.int .i64 2]) ?_ ?_ ?_
     ·obtain ⟨m0,m1,m2,m3⟩:=M4.out
      simp [results,Tryz.results72,go_sem,m0,m1,m2,m3]
     ·rfl
     ·exact (ReadR.bad 2 (.inl rfl) HN.out ((((BX4.out.setCell (Nat.le_refl _) _).setCell (Nat.le_refl _) _).setCell (Nat.le_refl _) _).setCell (Nat.le_refl _) _)))
end Go.Proofs.YtagplldaooipmaaGreatDoor
