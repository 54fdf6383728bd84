/- Wa. -/
import Derived.Test.YtagplldaooipmaaGreatDoorUb
import Derived.Test.YtagplldaooipmaaGreatDoorVd
import Derived.Test.YtagplldaooipmaaGreatDoorKd
import Derived.Test.YtagplldaooipmaaGreatDoorKa
import Derived.Test.YtagplldaooipmaaGreatDoorKn
namespace Go.Proofs.YtagplldaooipmaaGreatDoor
open Go.RowKit
def WordsP (w:World) (ws:List (List UInt8)) (e:Ending) (w':World):Prop:=∃ v,e=.returned v∧w'.ownsRow w.heap.size 9 1 v ws.length (ws.map strV)∧Below w.heap.size w w'
theorem strV_snoc (ws:List (List UInt8)) (x:List UInt8):(ws ++ [x]).map strV=ws.map strV ++ [strV x]:=by simp
set_option maxHeartbeats 2000000 in
set_option maxRecDepth 100000 in
theorem words6_any (s:List UInt8) (w:World) (hl:s.length ≤ 1000):Calls Tryz.prog 122 #[.string ⟨s.toArray⟩] w (WordsP w (wordsR s)):=by
 generalize hres:wordsR s=res
 have HRES:=Lib.hid hres
 clear hres
 go_enter Tryz.func122, Tryz.ntmps122
 go_wp2_with fail
 go_loopw [3,4,5] (fun v c i wr=>∃ (k:Nat) (acc:List (List UInt8)) (cur:List UInt8),k ≤ s.length∧i=.int .i64 k∧c=.string ⟨cur.toArray⟩∧wr.ownsRow w.heap.size 9 1 v acc.length (acc.map strV)∧acc.length ≤ k∧cur.length ≤ k∧wordsF (s.drop k) cur acc=res∧Below w.heap.size w wr) (fun _ _ i _=>s.length - (intOf i).toNat)
 case atStart=>exact ⟨0,[],[],Nat.zero_le _,rfl,rfl,World.ownsRow_nil _ _ _ _,Nat.le_refl _,Nat.le_refl _,HRES.out,Below.refl _ _⟩
 case round=>
  obtain ⟨k,acc,cur,hk,rfl,rfl,hown,hal,hcl,hw,hbw⟩:=hrel
  obtain ⟨vA,vc,rfl,hvc,hvm,_⟩:=own_slice hown (by omega)
  have OW:=Lib.hid hown
  have BW:=Lib.hid hbw
  have HW:=Lib.hid hw
  have hsz:=hbw.size
  clear hown hbw hw hvm
  by_cases hlt:k < s.length
  ·have HD:Hid (s.drop k=s[k] :: s.drop (k + 1)):=Lib.hid (List.drop_eq_getElem_cons hlt)
   have HT:Hid ((s.take (k + 1)).drop k = [s[k]]):=Lib.hid (by rw [List.drop_take,show k + 1 - k=1 by omega,List.drop_eq_getElem_cons hlt];rfl)
   by_cases hx:s[k]=32
   ·have HN:Hid (wordsF (s.drop (k + 1)) [] (acc ++ [cur])=res):=Lib.hid (by have h:=HW.out;rw [HD.out,wordsF,if_pos hx] at h;exact h)
    clear HD HT HW
    go_wp2_with (at_builtin;refine wpList_append_at wr wr.heap.size rfl rfl _ _ 81 rfl w.heap.size 9 _ 1 16 Tryz.underlying81 info_str rfl (by decide) OW.out rfl [strV cur] 9 rfl rfl (one_str _) (by omega) (by omega) hsz ?_;intro v5 w5 hown5 hb5)
    go_wp2_with fail
    go_roundw
    case rel=>exact ⟨k + 1,acc ++ [cur],[],by omega,by go_num,rfl,by rw [strV_snoc,List.length_append];exact hown5,by simp;omega,by simp,HN.out,BW.out.trans hb5⟩
    case measure=>simp [intOf];omega
   ·have HN:Hid (wordsF (s.drop (k + 1)) (cur ++ [s[k]]) acc=res):=Lib.hid (by have h:=HW.out;rw [HD.out,wordsF,if_neg hx] at h;exact h)
    have e1:(((s[k].toNat:Nat):Int) == 32)=false:=by
     rw [beq_eq_false_iff_ne]
     intro h
     exact hx (UInt8.toNat_inj.1 (by simpa using (by omega:s[k].toNat=32)))
    have hT2:=HT.out
    have e2:(k:Int) + 1 ≤ (s.length:Int):=by omega
    have e3:k + 1 ≤ s.length:=by omega
    clear HD HT HW hx
    go_wp2_with fail
    go_roundw
    case rel=>exact ⟨k + 1,acc,cur ++ [s[k]],by omega,by go_num,by first | rfl | (rw [hT2]) | simp [hT2],OW.out,by omega,by simp;omega,HN.out,BW.out⟩
    case measure=>simp [intOf];omega
  ·obtain rfl:k=s.length:=by omega
   rw [List.drop_length] at HW
   by_cases hc:cur = []
   ·subst hc
    have HN:Hid (acc=res):=Lib.hid (by have h:=HW.out;rw [wordsF,if_pos rfl] at h;exact h)
    clear HW
    go_wp2_with fail
    go_ret
    obtain rfl:=HN.out
    exact ⟨_,rfl,OW.out,BW.out⟩
   ·have HN:Hid (acc ++ [cur]=res):=Lib.hid (by have h:=HW.out;rw [wordsF,if_neg hc] at h;exact h)
    have hc1:=str_ne hc
    clear HW hc
    go_wp2_with (at_builtin;refine wpList_append_at wr wr.heap.size rfl rfl _ _ 81 rfl w.heap.size 9 _ 1 16 Tryz.underlying81 info_str rfl (by decide) OW.out rfl [strV cur] 9 rfl rfl (one_str _) (by omega) (by omega) hsz ?_;intro v5 w5 hown5 hb5)
    go_wp2_with fail
    go_ret
    obtain rfl:=HN.out
    exact ⟨_,rfl,by rw [strV_snoc,List.length_append];exact hown5,BW.out.trans hb5⟩
end Go.Proofs.YtagplldaooipmaaGreatDoor
/- The reference's layers 6 and 7: forms, names, operands. -/
namespace Go.Proofs.YtagplldaooipmaaGreatDoor
open Go.RowKit
theorem rd_first {w:World} {B c:Nat} {A:Option Addr} {x:List UInt8} {r:List (List UInt8)} (h:Rd w B (.slice A (r.length + 1) c) (r.length + 1) ((x :: r).map strV)) :
  ∃ g o,A=some ⟨g,o,none⟩∧g < B∧w.cell? ⟨g,o,none⟩=some (.string ⟨x.toArray⟩)∧∀ (A':Option Addr) (c':Nat),(0 < r.length → A'=some ⟨g,o + 1,none⟩) → r.length ≤ c' → Rd w B (.slice A' r.length c') r.length (r.map strV):=by
 obtain ⟨A',c',h1,h2,h3⟩:=h
 injection h1 with h1 _ _
 subst h1
 obtain ⟨g,o,h4,h5,h6⟩:=h3 (by omega)
 refine ⟨g,o,h4,h5,h6 0 (strV x) (by simp),fun A' c' hA hc=>⟨A',c',rfl,hc,fun h0=>⟨g,o + 1,hA h0,h5,fun j u hu=>?_⟩⟩⟩
 rw [show o + 1 + j=o + (j + 1) by omega]
 exact h6 (j + 1) u (by simpa using hu)
theorem wpList_run_val {P:Program} {ops:Array Oper} {rest:List Oper} {o:Oper} {a:Act} {Q:Exit → Act → World → Prop} {w:World} (hg:o.guard=none) (v:Value) (w':World) (h:(execOp a.eval o).run P w=.ok (.value v) w')
  (hk:wpList P ops Q rest (a.put o.dst v) w'):wpList P ops Q (o :: rest) a w:=
 wpList_plain hg fun K hK=>by unfold Oper.wp;rw [h];exact hK _ _ hk
theorem getD_at (l:List (List UInt8)) (k:Nat) (h:k < l.length):l.getD k []=l[k]:=by simp [h]
set_option maxHeartbeats 4000000 in
set_option maxRecDepth 100000 in
theorem forms6_any (w:World):Calls Tryz.prog 123 #[] w fun e w'=>∃ v,e=.returned v∧WAt w' forms06 v∧Below w.heap.size w w':=by
 go_enter Tryz.func123, Tryz.ntmps123
 go_wp2_with (refine wpList_run_val rfl (.slice (some ⟨w.heap.size,0,none⟩) 256 256) (w.alloc (.cells (forms06.map fun l=>Value.string ⟨l.toArray⟩).toArray 9)) (by kernel_rfl) ?_)
 go_ret
 exact ⟨_,rfl,fields_laid w forms06,(Below.refl _ _).alloc (Nat.le_refl _) _⟩
theorem formw6_any (op:Nat) (h:op < 256) (w:World):Calls Tryz.prog 122 #[.string ⟨(forms06.getD op []).toArray⟩] w (WordsP w (words80 op)):=by
 have h1:=words6_any (forms06.getD op []) w (by
  rw [getD_at _ _ (by rw [forms06_len];exact h)]
  have:=forms06_short _ (List.getElem_mem (l:=forms06) (n:=op) (by rw [forms06_len];exact h))
  omega)
 rwa [forms06_words ⟨op,h⟩] at h1
theorem form6_any (op:Nat) (h:op < 256) (w:World):Calls Tryz.prog 123 #[] w fun e w'=>∃ g,e=.returned (.slice (some ⟨g,0,none⟩) 256 256)∧w'.cell? ⟨g,op,none⟩=some (.string ⟨(forms06.getD op []).toArray⟩)∧Below w.heap.size w w':=by
 refine (forms6_any w).mono ?_
 rintro e w1 ⟨v,rfl,hW,hb⟩
 obtain ⟨g,rfl,hg,hc⟩:=hW
 have:=hc op (by rw [forms06_len];exact h)
 refine ⟨g,by rw [forms06_len],?_,hb⟩
 rw [this,getD_at _ _ (by rw [forms06_len];exact h)]
set_option maxHeartbeats 4000000 in
set_option maxRecDepth 100000 in
theorem refName6_any (op:Nat) (h:op < 256) (w:World):Calls Tryz.prog 78 #[.int .u8 op] w fun e w'=>e=.returned (.string ⟨(name80 op).toArray⟩)∧Below w.heap.size w w':=by
 have HF:=Lib.hid (form6_any op h w)
 have HW:=Lib.hid (fun W=>formw6_any op h W)
 unfold name80
 have h2:(op:Int) < 256:=by omega
 generalize words80 op=ws at *
 generalize forms06.getD op []=fm at *
 clear h
 match ws,HW with
 | [],HW=>
  go_enter Tryz.func78, Tryz.ntmps78
  go_wp2_with fail
  refine HF.out.mono ?_
  rintro e w1 ⟨g,rfl,hcell,hb1⟩
  go_wp2_with fail
  refine (HW.out _).mono ?_
  rintro e w2 ⟨v,rfl,hown,hb2⟩
  have B2:=Lib.hid (bthen hb1 hb2)
  have RD:=Lib.hid (Rd.of_own hown)
  obtain ⟨vA,vc,rfl,hvc,hvm,hrest⟩:=own_slice hown (by omega)
  clear hb1 hb2 hown hcell HW HF h2 hvm hrest
  simp only [List.length_nil] at *
  go_wp2_with fail
  go_ret
  exact ⟨rfl,B2.out⟩
 | x :: r,HW=>
  go_enter Tryz.func78, Tryz.ntmps78
  go_wp2_with fail
  refine HF.out.mono ?_
  rintro e w1 ⟨g,rfl,hcell,hb1⟩
  go_wp2_with fail
  refine (HW.out _).mono ?_
  rintro e w2 ⟨v,rfl,hown,hb2⟩
  have B2:=Lib.hid (bthen hb1 hb2)
  have RD:=Lib.hid (Rd.of_own hown)
  obtain ⟨vA,vc,rfl,hvc,hvm,hrest⟩:=own_slice hown (by omega)
  clear hb1 hb2 hown hcell HW HF h2 hvm hrest
  simp only [List.length_cons] at *
  obtain ⟨g2,o2,rfl,hg2,c2,_⟩:=rd_first RD.out
  have i1:((r.length:Int) + 1 == 0)=false:=by rw [beq_eq_false_iff_ne];omega
  have i2:(0:Int) < (r.length:Int) + 1:=by omega
  clear RD
  generalize r.length=m at *
  go_wp2_with fail
  go_ret
  exact ⟨rfl,B2.out⟩
set_option maxHeartbeats 4000000 in
set_option maxRecDepth 100000 in
theorem refArgs6_any (op:Nat) (h:op < 256) (w:World):Calls Tryz.prog 80 #[.int .u8 op] w (ArgsP w (args80 op)):=by
 have HF:=Lib.hid (form6_any op h w)
 have HW:=Lib.hid (fun W=>formw6_any op h W)
 unfold args80
 have h2:(op:Int) < 256:=by omega
 generalize words80 op=ws at *
 generalize forms06.getD op []=fm at *
 clear h
 match ws,HW with
 | [],HW=>
  go_enter Tryz.func80, Tryz.ntmps80
  go_wp2_with fail
  refine HF.out.mono ?_
  rintro e w1 ⟨g,rfl,hcell,hb1⟩
  go_wp2_with fail
  refine (HW.out _).mono ?_
  rintro e w2 ⟨v,rfl,hown,hb2⟩
  have B2:=Lib.hid (bthen hb1 hb2)
  have RD:=Lib.hid (Rd.of_own hown)
  obtain ⟨vA,vc,rfl,hvc,hvm,hrest⟩:=own_slice hown (by omega)
  clear hb1 hb2 hown hcell HW HF h2 hvm hrest
  simp only [List.length_nil] at *
  go_wp2_with fail
  go_ret
  exact ⟨_,rfl,⟨none,0,rfl,Nat.le_refl _,fun h=>absurd h (by simp)⟩,B2.out⟩
 | x :: r,HW=>
  go_enter Tryz.func80, Tryz.ntmps80
  go_wp2_with fail
  refine HF.out.mono ?_
  rintro e w1 ⟨g,rfl,hcell,hb1⟩
  go_wp2_with fail
  refine (HW.out _).mono ?_
  rintro e w2 ⟨v,rfl,hown,hb2⟩
  have B2:=Lib.hid (bthen hb1 hb2)
  have RD:=Lib.hid (Rd.of_own hown)
  obtain ⟨vA,vc,rfl,hvc,hvm,hrest⟩:=own_slice hown (by omega)
  clear hb1 hb2 hown hcell HW HF h2 hvm hrest
  simp only [List.length_cons,List.drop_succ_cons,List.drop_zero] at *
  obtain ⟨g2,o2,rfl,hg2,c2,HT⟩:=rd_first RD.out
  have HT:=Lib.hid HT
  have i1:((r.length:Int) + 1 == 0)=false:=by rw [beq_eq_false_iff_ne];omega
  have i2:(1:Int) ≤ (r.length:Int) + 1:=by omega
  have i3:(r.length:Int) + 1 ≤ (vc:Int):=by omega
  clear RD
  go_wp2_with fail
  all_goals (
   go_ret
   refine ⟨_,rfl,?_,B2.out⟩
   exact HT.out _ _ (fun h=>by first | rfl | omega) (by omega))
set_option maxHeartbeats 4000000 in
set_option maxRecDepth 100000 in
theorem refSize6_any (op:Nat) (h:op < 256) (w:World):Calls Tryz.prog 121 #[.int .u8 op] w fun e w'=>e=.returned (.int .i64 (size80 op))∧Below w.heap.size w w':=by
 have HF:=Lib.hid (form6_any op h w)
 have HW:=Lib.hid (fun W=>formw6_any op h W)
 unfold size80
 have h2:(op:Int) < 256:=by omega
 have hwl:(words80 op).length ≤ 3:=words80_len op h
 generalize words80 op=ws at *
 generalize forms06.getD op []=fm at *
 clear h
 match ws,HW,hwl with
 | [],HW,hwl=>
  go_enter Tryz.func121, Tryz.ntmps121
  go_wp2_with fail
  refine HF.out.mono ?_
  rintro e w1 ⟨g,rfl,hcell,hb1⟩
  go_wp2_with fail
  refine (HW.out _).mono ?_
  rintro e w2 ⟨v,rfl,hown,hb2⟩
  have B2:=Lib.hid (bthen hb1 hb2)
  have RD:=Lib.hid (Rd.of_own hown)
  obtain ⟨vA,vc,rfl,hvc,hvm,hrest⟩:=own_slice hown (by omega)
  clear hb1 hb2 hown hcell HW HF h2 hvm hrest
  simp only [List.length_nil] at *
  go_wp2_with fail
  go_ret
  exact ⟨rfl,B2.out⟩
 | x :: r,HW,hwl=>
  obtain ⟨SZ,hSZ⟩:∃ SZ:Nat,SZ=if x :: r = [] then 0 else if (x :: r).getLastD []=sD16 then 3 else if (x :: r).getLastD []=sD8 then 2 else 1:=⟨_,rfl⟩
  rw [← hSZ]
  have HSZ:=Lib.hid hSZ
  clear hSZ
  have HLW:Hid (((x :: r).map strV)[r.length]? = some (.string ⟨((x :: r).getLastD []).toArray⟩)):=Lib.hid (by
   rw [List.getElem?_map,List.getLastD_eq_getLast?,List.getLast?_eq_getElem?]
   simp [strV])
  have HNE:Hid (SZ=if (x :: r).getLastD []=sD16 then 3 else if (x :: r).getLastD []=sD8 then 2 else 1):=Lib.hid (by rw [HSZ.out,if_neg (by simp)])
  clear HSZ
  generalize (x :: r).getLastD []=lw at *
  have hcase:(lw=sD8∧Hid (SZ=2)) ∨ (lw=sD16∧Hid (SZ=3)) ∨ (((lw == [100,56])=false∧(lw == [100,49,54])=false)∧Hid (SZ=1)):=by
   have h:=HNE.out
   by_cases h1:lw=sD16
   ·right;left;rw [if_pos h1] at h;exact ⟨h1,Lib.hid h⟩
   ·rw [if_neg h1] at h
    by_cases h2:lw=sD8
    ·left;rw [if_pos h2] at h;exact ⟨h2,Lib.hid h⟩
    ·rw [if_neg h2] at h;right;right;exact ⟨⟨str_ne h2,str_ne h1⟩,Lib.hid h⟩
  clear HNE
  rcases hcase with ⟨rfl,HZ⟩ | ⟨rfl,HZ⟩ | ⟨⟨n1,n2⟩,HZ⟩
  all_goals (
   go_enter Tryz.func121, Tryz.ntmps121
   go_wp2_with fail
   refine HF.out.mono ?_
   rintro e w1 ⟨g,rfl,hcell,hb1⟩
   go_wp2_with fail
   refine (HW.out _).mono ?_
   rintro e w2 ⟨v,rfl,hown,hb2⟩
   have B2:=Lib.hid (bthen hb1 hb2)
   have RD:=Lib.hid (Rd.of_own hown)
   obtain ⟨vA,vc,rfl,hvc,hvm,hrest⟩:=own_slice hown (by omega)
   clear hb1 hb2 hown hcell HW HF h2 hvm hrest
   obtain ⟨A',c',h1,h2,h3⟩:=RD.out
   injection h1 with h1 _ h4
   subst h1;subst h4
   obtain ⟨g2,o2,rfl,hg2,h6⟩:=h3 (by simp)
   have c2:=h6 r.length _ HLW.out
   clear h6 h3 HLW RD
   simp only [List.length_cons] at *
   have i3:r.length ≤ 2:=by omega
   clear hwl
   have i1:((r.length:Int) + 1 == 0)=false:=by rw [beq_eq_false_iff_ne];omega
   have i2:(r.length:Int) < (r.length:Int) + 1:=by omega
   generalize r.length=m at *
   go_wp2_with fail
   go_ret
   rw [HZ.out]
   exact ⟨rfl,B2.out⟩)
set_option maxHeartbeats 4000000 in
set_option maxRecDepth 100000 in
theorem forms7_any (w:World):Calls Tryz.prog 125 #[] w fun e w'=>∃ v,e=.returned v∧WAt w' forms07 v∧Below w.heap.size w w':=by
 go_enter Tryz.func125, Tryz.ntmps125
 go_wp2_with (refine wpList_run_val rfl (.slice (some ⟨w.heap.size,0,none⟩) 256 256) (w.alloc (.cells (forms07.map fun l=>Value.string ⟨l.toArray⟩).toArray 9)) (by kernel_rfl) ?_)
 go_ret
 exact ⟨_,rfl,fields_laid w forms07,(Below.refl _ _).alloc (Nat.le_refl _) _⟩
theorem formw7_any (op:Nat) (h:op < 256) (w:World):Calls Tryz.prog 122 #[.string ⟨(forms07.getD op []).toArray⟩] w (WordsP w (zform op)):=by
 have h1:=words6_any (forms07.getD op []) w (by
  rw [getD_at _ _ (by rw [forms07_len];exact h)]
  have:=forms07_short _ (List.getElem_mem (l:=forms07) (n:=op) (by rw [forms07_len];exact h))
  omega)
 rwa [forms07_words ⟨op,h⟩] at h1
theorem form7_any (op:Nat) (h:op < 256) (w:World):Calls Tryz.prog 125 #[] w fun e w'=>∃ g,e=.returned (.slice (some ⟨g,0,none⟩) 256 256)∧w'.cell? ⟨g,op,none⟩=some (.string ⟨(forms07.getD op []).toArray⟩)∧Below w.heap.size w w':=by
 refine (forms7_any w).mono ?_
 rintro e w1 ⟨v,rfl,hW,hb⟩
 obtain ⟨g,rfl,hg,hc⟩:=hW
 have:=hc op (by rw [forms07_len];exact h)
 refine ⟨g,by rw [forms07_len],?_,hb⟩
 rw [this,getD_at _ _ (by rw [forms07_len];exact h)]
set_option maxHeartbeats 4000000 in
set_option maxRecDepth 100000 in
theorem refName7_any (op:Nat) (h:op < 256) (w:World):Calls Tryz.prog 81 #[.int .u8 op] w fun e w'=>e=.returned (.string ⟨(zname op).toArray⟩)∧Below w.heap.size w w':=by
 have HF:=Lib.hid (form7_any op h w)
 have HW:=Lib.hid (fun W=>formw7_any op h W)
 unfold zname
 have h2:(op:Int) < 256:=by omega
 generalize zform op=ws at *
 generalize forms07.getD op []=fm at *
 clear h
 match ws,HW with
 | [],HW=>
  go_enter Tryz.func81, Tryz.ntmps81
  go_wp2_with fail
  refine HF.out.mono ?_
  rintro e w1 ⟨g,rfl,hcell,hb1⟩
  go_wp2_with fail
  refine (HW.out _).mono ?_
  rintro e w2 ⟨v,rfl,hown,hb2⟩
  have B2:=Lib.hid (bthen hb1 hb2)
  have RD:=Lib.hid (Rd.of_own hown)
  obtain ⟨vA,vc,rfl,hvc,hvm,hrest⟩:=own_slice hown (by omega)
  clear hb1 hb2 hown hcell HW HF h2 hvm hrest
  simp only [List.length_nil] at *
  go_wp2_with fail
  go_ret
  exact ⟨rfl,B2.out⟩
 | x :: r,HW=>
  go_enter Tryz.func81, Tryz.ntmps81
  go_wp2_with fail
  refine HF.out.mono ?_
  rintro e w1 ⟨g,rfl,hcell,hb1⟩
  go_wp2_with fail
  refine (HW.out _).mono ?_
  rintro e w2 ⟨v,rfl,hown,hb2⟩
  have B2:=Lib.hid (bthen hb1 hb2)
  have RD:=Lib.hid (Rd.of_own hown)
  obtain ⟨vA,vc,rfl,hvc,hvm,hrest⟩:=own_slice hown (by omega)
  clear hb1 hb2 hown hcell HW HF h2 hvm hrest
  simp only [List.length_cons] at *
  obtain ⟨g2,o2,rfl,hg2,c2,_⟩:=rd_first RD.out
  have i1:((r.length:Int) + 1 == 0)=false:=by rw [beq_eq_false_iff_ne];omega
  have i2:(0:Int) < (r.length:Int) + 1:=by omega
  clear RD
  generalize r.length=m at *
  go_wp2_with fail
  go_ret
  exact ⟨rfl,B2.out⟩
set_option maxHeartbeats 4000000 in
set_option maxRecDepth 100000 in
theorem refArgs7_any (op:Nat) (h:op < 256) (w:World):Calls Tryz.prog 82 #[.int .u8 op] w (ArgsP w (zargs op)):=by
 have HF:=Lib.hid (form7_any op h w)
 have HW:=Lib.hid (fun W=>formw7_any op h W)
 unfold zargs
 have h2:(op:Int) < 256:=by omega
 generalize zform op=ws at *
 generalize forms07.getD op []=fm at *
 clear h
 match ws,HW with
 | [],HW=>
  go_enter Tryz.func82, Tryz.ntmps82
  go_wp2_with fail
  refine HF.out.mono ?_
  rintro e w1 ⟨g,rfl,hcell,hb1⟩
  go_wp2_with fail
  refine (HW.out _).mono ?_
  rintro e w2 ⟨v,rfl,hown,hb2⟩
  have B2:=Lib.hid (bthen hb1 hb2)
  have RD:=Lib.hid (Rd.of_own hown)
  obtain ⟨vA,vc,rfl,hvc,hvm,hrest⟩:=own_slice hown (by omega)
  clear hb1 hb2 hown hcell HW HF h2 hvm hrest
  simp only [List.length_nil] at *
  go_wp2_with fail
  go_ret
  exact ⟨_,rfl,⟨none,0,rfl,Nat.le_refl _,fun h=>absurd h (by simp)⟩,B2.out⟩
 | x :: r,HW=>
  go_enter Tryz.func82, Tryz.ntmps82
  go_wp2_with fail
  refine HF.out.mono ?_
  rintro e w1 ⟨g,rfl,hcell,hb1⟩
  go_wp2_with fail
  refine (HW.out _).mono ?_
  rintro e w2 ⟨v,rfl,hown,hb2⟩
  have B2:=Lib.hid (bthen hb1 hb2)
  have RD:=Lib.hid (Rd.of_own hown)
  obtain ⟨vA,vc,rfl,hvc,hvm,hrest⟩:=own_slice hown (by omega)
  clear hb1 hb2 hown hcell HW HF h2 hvm hrest
  simp only [List.length_cons,List.drop_succ_cons,List.drop_zero] at *
  obtain ⟨g2,o2,rfl,hg2,c2,HT⟩:=rd_first RD.out
  have HT:=Lib.hid HT
  have i1:((r.length:Int) + 1 == 0)=false:=by rw [beq_eq_false_iff_ne];omega
  have i2:(1:Int) ≤ (r.length:Int) + 1:=by omega
  have i3:(r.length:Int) + 1 ≤ (vc:Int):=by omega
  clear RD
  go_wp2_with fail
  all_goals (
   go_ret
   refine ⟨_,rfl,?_,B2.out⟩
   exact HT.out _ _ (fun h=>by first | rfl | omega) (by omega))
end Go.Proofs.YtagplldaooipmaaGreatDoor
/- The reference's layer 6: jumps; the first instruction of bytes. -/
namespace Go.Proofs.YtagplldaooipmaaGreatDoor
open Go.RowKit
set_option maxHeartbeats 1000000 in
theorem refCond6_any (op:Nat) (h:op < 256) (w:World):Calls Tryz.prog 124 #[.int .u8 op] w fun e w'=>e=.returned (.int .i64 (condI80 op))∧w=w':=by
 unfold condI80
 by_cases c1:op < 192
 ·rw [if_neg (by omega)]
  have e0:(op:Int) < 192:=by omega
  clear c1 h
  go_enter Tryz.func124, Tryz.ntmps124
  go_wp2_with fail
  go_ret
  exact ⟨rfl,rfl⟩
 ·have e0:decide ((op:Int) < 192)=false:=by simp;omega
  by_cases k0:op % 8=0
  ·have e1:((op:Int) % 8 == 0)=true:=by rw [beq_iff_eq];omega
   rw [if_pos (by omega)]
   clear c1 k0
   go_enter Tryz.func124, Tryz.ntmps124
   go_wp2_with fail
   go_ret
   exact ⟨rfl,rfl⟩
  have e1:((op:Int) % 8 == 0)=false:=by rw [beq_eq_false_iff_ne];omega
  by_cases k2:op % 8=2
  ·have e2:((op:Int) % 8 == 2)=true:=by rw [beq_iff_eq];omega
   rw [if_pos (by omega)]
   clear c1 k0 k2
   go_enter Tryz.func124, Tryz.ntmps124
   go_wp2_with fail
   go_ret
   exact ⟨rfl,rfl⟩
  have e2:((op:Int) % 8 == 2)=false:=by rw [beq_eq_false_iff_ne];omega
  by_cases k4:op % 8=4
  ·have e4:((op:Int) % 8 == 4)=true:=by rw [beq_iff_eq];omega
   rw [if_pos (by omega)]
   clear c1 k0 k2 k4
   go_enter Tryz.func124, Tryz.ntmps124
   go_wp2_with fail
   go_ret
   exact ⟨rfl,rfl⟩
  have e4:((op:Int) % 8 == 4)=false:=by rw [beq_eq_false_iff_ne];omega
  rw [if_neg (by omega)]
  clear c1 k0 k2 k4
  go_enter Tryz.func124, Tryz.ntmps124
  go_wp2_with fail
  go_ret
  exact ⟨rfl,rfl⟩
set_option maxHeartbeats 1000000 in
theorem refJumps6_any (op:Nat) (h:op < 256) (w:World):Calls Tryz.prog 79 #[.int .u8 op] w fun e w'=>e=.returned (.bool (jumps80 op))∧w=w':=by
 have HC:=Lib.hid (fun W=>refCond6_any op h W)
 unfold jumps80
 by_cases c1:op=195 ∨ op=205
 ·rw [decide_eq_true c1]
  go_enter Tryz.func79, Tryz.ntmps79
  go_wp2_with ((with_reducible refine (HC.out _).mono ?_);rintro e w' ⟨rfl,rfl⟩)
  all_goals (
   go_ret
   first
    | exact ⟨rfl,rfl⟩
    | (simp only [beq_iff_eq,beq_eq_false_iff_ne,ne_eq] at *;omega))
 ·rw [decide_eq_false c1]
  have e1:((op:Int) == 195)=false:=by rw [beq_eq_false_iff_ne];omega
  have e2:((op:Int) == 205)=false:=by rw [beq_eq_false_iff_ne];omega
  have h1:=condI80_lo op
  generalize condI80 op=c at *
  by_cases c2:0 ≤ c
  ·rw [decide_eq_true c2]
   by_cases c3:op % 8=0
   ·have e3:((op:Int) % 8 != 0)=false:=by rw [bne_eq_false_iff_eq];omega
    rw [decide_eq_false (by omega)]
    clear c1 c3
    go_enter Tryz.func79, Tryz.ntmps79
    go_wp2_with fail
    refine (HC.out _).mono ?_
    rintro e w' ⟨rfl,rfl⟩
    go_wp2_with fail
    go_ret
    exact ⟨rfl,rfl⟩
   ·have e3:((op:Int) % 8 != 0)=true:=by rw [bne_iff_ne];omega
    rw [decide_eq_true (by omega)]
    clear c1 c3
    go_enter Tryz.func79, Tryz.ntmps79
    go_wp2_with fail
    refine (HC.out _).mono ?_
    rintro e w' ⟨rfl,rfl⟩
    go_wp2_with fail
    go_ret
    exact ⟨rfl,rfl⟩
  ·rw [decide_eq_false c2]
   clear c1
   go_enter Tryz.func79, Tryz.ntmps79
   go_wp2_with fail
   refine (HC.out _).mono ?_
   rintro e w' ⟨rfl,rfl⟩
   go_wp2_with fail
   go_ret
   exact ⟨rfl,rfl⟩
set_option maxHeartbeats 2000000 in
set_option maxRecDepth 100000 in
theorem refRead6_any (b:List UInt8) (v:Value) (w:World) (hr:RdB w w.heap.size v b) (hl:b.length ≤ 1000000):Calls Tryz.prog 77 #[v] w fun e w'=>e=.returned (.tuple #[.int .u8 (read80 b).1.1,.int .u16 (read80 b).1.2,.int .i64 (read80 b).2.1,.int .i64 (read80 b).2.2])∧Below w.heap.size w w':=by
 obtain ⟨A,c,rfl,hc⟩:=hr.form
 by_cases h0:b = []
 ·subst h0
  go_enter Tryz.func77, Tryz.ntmps77
  go_wp2_with fail
  exact bodyPost_ret (v:=.tuple #[.int .u8 0,.int .u16 0,.int .i64 0,.int .i64 2]) (by simp [results,Tryz.results77,go_sem]) rfl ⟨rfl,Below.refl _ _⟩
 have hpos:0 < b.length:=List.length_pos_iff.2 h0
 obtain ⟨g,o,rfl,hg,hcell⟩:=hr.get 0 hpos
 have c0:=hcell 0 hpos
 rw [Nat.add_zero] at c0
 have l0:=byteN_lt b 0
 have HS:=Lib.hid (fun W=>refSize6_any (byteN b 0) l0 W)
 have e0:((b.length:Int) == 0)=false:=by rw [beq_eq_false_iff_ne];omega
 unfold read80
 rw [if_neg h0]
 by_cases h1:size80 (byteN b 0)=0
 ·rw [if_pos h1]
  rw [h1] at HS
  generalize byteN b 0=op at *
  generalize b.length=n at *
  clear h0 h1 hcell
  go_enter Tryz.func77, Tryz.ntmps77
  go_wp2_with fail
  refine (HS.out _).mono ?_
  rintro e w1 ⟨rfl,hb⟩
  go_wp2_with fail
  exact bodyPost_ret (v:=.tuple #[.int .u8 0,.int .u16 0,.int .i64 0,.int .i64 8]) (by simp [results,Tryz.results77,go_sem]) rfl ⟨rfl,hb⟩
 rw [if_neg h1]
 have hs:size80 (byteN b 0)=1 ∨ size80 (byteN b 0)=2 ∨ size80 (byteN b 0)=3:=by unfold size80 at h1 ⊢;split at h1 <;> simp_all;split <;> simp_all;split <;> simp_all
 by_cases h2:b.length < size80 (byteN b 0)
 ·rw [if_pos h2]
  generalize size80 (byteN b 0)=s at *
  have e1:((s:Int) == 0)=false:=by rw [beq_eq_false_iff_ne];omega
  generalize byteN b 0=op at *
  generalize b.length=n at *
  clear h0 h1 hcell hs
  go_enter Tryz.func77, Tryz.ntmps77
  go_wp2_with fail
  refine (HS.out _).mono ?_
  rintro e w1 ⟨rfl,hb⟩
  go_wp2_with fail
  exact bodyPost_ret (v:=.tuple #[.int .u8 0,.int .u16 0,.int .i64 0,.int .i64 2]) (by simp [results,Tryz.results77,go_sem]) rfl ⟨rfl,hb⟩
 rw [if_neg h2]
 have l1:=byteN_lt b 1
 have l2:=byteN_lt b 2
 have c1:=hcell 1
 have c2:=hcell 2
 unfold n80
 rcases hs with hs | hs | hs
 ·rw [hs] at HS h2 ⊢
  generalize byteN b 0=op at *
  generalize b.length=n at *
  have h2':¬ n < 1:=h2
  clear h0 h1 hcell hs c1 c2
  go_enter Tryz.func77, Tryz.ntmps77
  go_wp2_with fail
  refine (HS.out _).mono ?_
  rintro e w1 ⟨rfl,hb⟩
  have d0:=(hb.cell (p:=⟨g,o,none⟩) hg).trans c0
  have B1:=Lib.hid hb
  clear hb HS c0
  go_wp2_with fail
  exact bodyPost_ret (v:=.tuple #[.int .u8 op,.int .u16 0,.int .i64 1,.int .i64 0]) (by simp [results,Tryz.results77,go_sem]) rfl ⟨rfl,B1.out⟩
 ·rw [hs] at HS h2 ⊢
  have q1:=c1 (by omega)
  clear c1
  clear c2
  generalize byteN b 0=op at *
  generalize byteN b 1=x1 at *
  generalize byteN b 2=x2 at *
  generalize b.length=n at *
  have h2':¬ n < 2:=h2
  clear h0 h1 hcell hs
  go_enter Tryz.func77, Tryz.ntmps77
  go_wp2_with fail
  refine (HS.out _).mono ?_
  rintro e w1 ⟨rfl,hb⟩
  have d0:=(hb.cell (p:=⟨g,o,none⟩) hg).trans c0
  have d1:=(hb.cell (p:=⟨g,o + 1,none⟩) hg).trans q1
  have B1:=Lib.hid hb
  clear hb HS c0 q1
  go_wp2_with fail
  exact bodyPost_ret (v:=.tuple #[.int .u8 op,.int .u16 x1,.int .i64 2,.int .i64 0]) (by simp [results,Tryz.results77,go_sem]) rfl ⟨rfl,B1.out⟩
 ·rw [hs] at HS h2 ⊢
  have q1:=c1 (by omega)
  clear c1
  have q2:=c2 (by omega)
  clear c2
  generalize byteN b 0=op at *
  generalize byteN b 1=x1 at *
  generalize byteN b 2=x2 at *
  generalize b.length=n at *
  have h2':¬ n < 3:=h2
  have m1:IntKind.u16.wrap ((x2:Int) * 256)=(x2:Int) * 256:=by simp [IntKind.wrap,IntKind.bits,IntKind.signed];omega
  have m2:IntKind.u16.wrap ((x1:Int) + (x2:Int) * 256)=(x2:Int) * 256 + (x1:Int):=by simp [IntKind.wrap,IntKind.bits,IntKind.signed];omega
  clear h0 h1 hcell hs
  go_enter Tryz.func77, Tryz.ntmps77
  go_wp2_with fail
  refine (HS.out _).mono ?_
  rintro e w1 ⟨rfl,hb⟩
  have d0:=(hb.cell (p:=⟨g,o,none⟩) hg).trans c0
  have d1:=(hb.cell (p:=⟨g,o + 1,none⟩) hg).trans q1
  have d2:=(hb.cell (p:=⟨g,o + 2,none⟩) hg).trans q2
  have B1:=Lib.hid hb
  clear hb HS c0 q1 q2
  go_wp2_with fail
  exact bodyPost_ret (v:=.tuple #[.int .u8 op,.int .u16 ((x2:Int) * 256 + (x1:Int)),.int .i64 3,.int .i64 0]) (by simp [results,Tryz.results77,go_sem]) rfl ⟨rfl,B1.out⟩
end Go.Proofs.YtagplldaooipmaaGreatDoor
