/- Wt. -/
import Derived.Test.YtagplldaooipmaaGreatDoorRows
import Derived.Test.YtagplldaooipmaaGreatDoorKa
import Derived.Test.YtagplldaooipmaaGreatDoorKd
import Derived.Test.YtagplldaooipmaaGreatDoorShelf
import Derived.Test.YtagplldaooipmaaGreatDoorKm
import Derived.Lib.SmallJoins
import Derived.Deep.QuietTactic
import Derived.BigQuiet
namespace Go.Proofs.YtagplldaooipmaaGreatDoor
open Go.RowKit
set_option maxHeartbeats 1000000 in
set_option maxRecDepth 100000 in
theorem names9_any (w:World):Calls Tryz.prog 119 #[] w fun e w'=>∃ v,e=.returned v∧WAt w' namesR v∧Below w.heap.size w w':=by
 go_enter Tryz.func119, Tryz.ntmps119
 go_wp2_with fail
 go_ret
 exact ⟨_,rfl,fields_laid w namesR,(Below.refl _ _).alloc (Nat.le_refl _) _⟩
set_option maxHeartbeats 1000000 in
set_option maxRecDepth 100000 in
theorem args9_any (w:World):Calls Tryz.prog 120 #[] w fun e w'=>∃ v,e=.returned v∧WAt w' argsR v∧Below w.heap.size w w':=by
 go_enter Tryz.func120, Tryz.ntmps120
 go_wp2_with fail
 go_ret
 exact ⟨_,rfl,fields_laid w argsR,(Below.refl _ _).alloc (Nat.le_refl _) _⟩
set_option maxHeartbeats 400000 in
theorem at9_any (ws:List (List UInt8)) (c:Int) (v:Value) (w:World) (hW:WAt w ws v) (hc:-9223372036854775808 ≤ c) (hc':c ≤ 9223372036854775807) :
  Calls Tryz.prog 118 #[v,.int .i64 c] w fun e w'=>e=.returned (.string ⟨(ofL ws 0 c).toArray⟩)∧w=w':=by
 obtain ⟨g,rfl,hg,hcell⟩:=hW
 by_cases h1:c < 0
 ·have HO:=Lib.hid (ofL_lo ws 0 c h1)
  clear hcell
  go_enter Tryz.func118, Tryz.ntmps118
  go_wp2_with fail
  go_ret
  rw [HO.out]
  exact ⟨rfl,rfl⟩
 ·obtain ⟨k,rfl⟩:∃ k:Nat,c=k:=⟨c.toNat,by omega⟩
  by_cases h3:ws.length ≤ k
  ·have HO:=Lib.hid (ofL_hi ws 0 k (by omega))
   clear hcell
   go_enter Tryz.func118, Tryz.ntmps118
   go_wp2_with fail
   go_ret
   rw [HO.out]
   exact ⟨rfl,rfl⟩
  ·have hk:k < ws.length:=by omega
   have HO:=Lib.hid (show ofL ws 0 k=ws[k] by unfold ofL;rw [if_neg (by omega)];simp [hk])
   have d:=hcell k hk
   clear hcell h1
   generalize ws[k]=x at *
   go_enter Tryz.func118, Tryz.ntmps118
   go_wp2_with fail
   go_ret
   rw [HO.out]
   exact ⟨rfl,rfl⟩
set_option maxHeartbeats 400000 in
theorem refName9_any (c:Int) (w:World) (hc:-9223372036854775808 ≤ c) (hc':c ≤ 9223372036854775807) :
  Calls Tryz.prog 73 #[.int .i64 c] w fun e w'=>e=.returned (.string ⟨(nameL c).toArray⟩)∧Below w.heap.size w w':=by
 have HE:=Lib.hid (name_ref c)
 go_enter Tryz.func73, Tryz.ntmps73
 go_wp2_with fail
 refine (names9_any _).mono ?_
 rintro e w1 ⟨v,rfl,hW',hb'⟩
 obtain ⟨g,n,rfl⟩:=hW'.form
 have hW:=Lib.hid hW'
 have hb:=Lib.hid hb'
 clear hW' hb'
 go_wp2_with fail
 refine (at9_any namesR c _ w1 hW.out hc hc').mono ?_
 rintro e w2 ⟨rfl,rfl⟩
 rw [HE.out]
 go_wp2_with fail
 go_ret
 exact ⟨rfl,hb.out⟩
set_option maxHeartbeats 400000 in
theorem refArg9_any (c:Int) (w:World) (hc:-9223372036854775808 ≤ c) (hc':c ≤ 9223372036854775807) :
  Calls Tryz.prog 76 #[.int .i64 c] w fun e w'=>e=.returned (.string ⟨(argL c).toArray⟩)∧Below w.heap.size w w':=by
 have HE:=Lib.hid (arg_ref c)
 go_enter Tryz.func76, Tryz.ntmps76
 go_wp2_with fail
 refine (args9_any _).mono ?_
 rintro e w1 ⟨v,rfl,hW',hb'⟩
 obtain ⟨g,n,rfl⟩:=hW'.form
 have hW:=Lib.hid hW'
 have hb:=Lib.hid hb'
 clear hW' hb'
 go_wp2_with fail
 refine (at9_any argsR c _ w1 hW.out hc hc').mono ?_
 rintro e w2 ⟨rfl,rfl⟩
 rw [HE.out]
 go_wp2_with fail
 go_ret
 exact ⟨rfl,hb.out⟩
end Go.Proofs.YtagplldaooipmaaGreatDoor
/- text86: Name, Arg (in a world with the tables that line wants). -/
namespace Go.Proofs.YtagplldaooipmaaGreatDoor
open Go.RowKit
set_option maxHeartbeats 400000 in
theorem lay_any (f:Int) (xs ws:List (List UInt8)) (g:Nat) (w:World) (hg:GWL w) (hb:g < w.heap.size) (hc:∀ j (hj:j < xs.length),w.cell? ⟨g,j,none⟩=some (.string ⟨xs[j].toArray⟩)) (hn:xs.length ≤ 1000)
  (hw:Lib.fields (Lib.join xs [32])=ws) (hl:(Lib.join xs [32]).length ≤ 1000) (ha:∀ c ∈ Lib.join xs [32],c.toNat < 128) :
  Calls Tryz.prog 151 #[.int .i64 f,.slice (some ⟨g,0,none⟩) xs.length xs.length] w fun e w'=>∃ g,e=.returned (.agg #[.slice (some ⟨g,0,none⟩) ws.length ws.length,.int .i64 f])∧w.heap.size ≤ g∧WAt w' ws (.slice (some ⟨g,0,none⟩) ws.length ws.length)∧Below w.heap.size w w':=by
 have HJ:=Lib.hid (fun W (hW:Below w.heap.size w W)=>Tryz.strings_Join g 0 xs.length (xs.map fun s=>⟨s.toArray⟩) ⟨#[32]⟩ W (fun j x hx=>by
  simp at hx
  obtain ⟨a,hx,rfl⟩:=hx
  obtain ⟨hj,rfl⟩:=List.getElem?_eq_some_iff.1 hx
  rw [Nat.zero_add,hW.cell (p:=⟨g,j,none⟩) hb]
  exact hc j hj) (Nat.lt_of_lt_of_le hb hW.size) (by simp;omega) (by simp) (by simp;simpa [Function.comp_def] using (show (Lib.join xs [32]).length ≤ 140737488355328 by omega)))
 have HF:=Lib.hid (fun W (hW:GWL W)=>Tryz.strings_Fields ⟨(Lib.join xs [32]).toArray⟩ W (by simp [ByteArray.size];omega) (fun j b hb=>ha b (List.mem_of_getElem? hb)) hW.1)
 simp only [List.length_map,List.map_map,Function.comp_def] at HJ
 go_enter Tryz.func151, Tryz.ntmps151
 go_wp2_with fail
 refine (HJ.out _ ((Below.refl _ _).alloc (Nat.le_refl _) _)).mono ?_
 rintro e w1 ⟨rfl,hb1⟩
 have B1:=Lib.hid (bthen ((Below.refl w.heap.size w).alloc (Nat.le_refl _) _) hb1)
 have C1:=Lib.hid ((hb1.block w.heap.size (by simp)).trans (heap_alloc_new w _))
 go_wp2_with fail
 refine (HF.out _ (hg.below B1.out)).mono ?_
 rintro e w2 ⟨rfl,rfl⟩
 have W2:=Lib.hid (fields_laid w1 ws)
 simp only [hw]
 have C2:=Lib.hid ((Below.heap_alloc w1 (.cells (ws.map fun l=>Value.string ⟨l.toArray⟩).toArray 9) w.heap.size (lt_of_heap C1.out)).trans C1.out)
 have c0:=cell_of_heap (i:=0) C2.out
 have c1:=cell_of_heap (i:=1) C2.out
 have f0:=frozen_of_heap (i:=0) C2.out
 have f1:=frozen_of_heap (i:=1) C2.out
 have B2:=Lib.hid (B1.out.alloc B1.out.size (.cells (ws.map fun l=>Value.string ⟨l.toArray⟩).toArray 9))
 have L2:=Lib.hid (lt_of_heap C2.out)
 simp at c0 c1 f0 f1
 generalize w1.alloc (.cells (ws.map fun l=>Value.string ⟨l.toArray⟩).toArray 9)=w3 at *
 have hne:w1.heap.size ≠ w.heap.size:=by have:=lt_of_heap C1.out;omega
 clear C1 C2 hb1 HJ HF
 go_wp2_with fail
 refine bodyPost_ret (v:=.agg #[.slice (some ⟨w1.heap.size,0,none⟩) ws.length ws.length,.int .i64 f]) (by simp [results,Tryz.results151,go_sem,c0,c1]) rfl ⟨_,rfl,B1.out.size,(W2.out.set hne _ _).set hne _ _,(B2.out.setCell (by simp) _).setCell (by simp) _⟩
def plainP:List (List UInt8):=[[77,79,86,32,65,68,68,32,79,82,32,65,68,67,32,83,66,66,32,65,78,68,32,83,85,66,32,88,79,82,32,67,77,80,32,73,78,67,32,68,69,67,32,82,79,76,32,82,79,82,32,82,67,76,32,82,67,82,32,78,79,84,32,88,67,72,71,32,80,85,83,72,32,80,79,80],[76,65,72,70,32,83,65,72,70,32,68,65,65,32,67,77,67,32,83,84,67,32,67,76,67,32,83,84,73,32,67,76,73,32,72,76,84,32,78,79,80,32,73,78,32,79,85,84,32,74,77,80,32,74,77,80,83,32,67,65,76,76,32,82,69,84]]
theorem plainP_ok:Lib.fields (Lib.join plainP [32])=plainW∧(Lib.join plainP [32]).length ≤ 1000∧∀ c ∈ Lib.join plainP [32],c.toNat < 128:=by decide +kernel
set_option maxHeartbeats 400000 in
theorem plain_any (w:World) (hg:GWL w):Calls Tryz.prog 107 #[] w fun e w'=>∃ v,e=.returned (.agg #[v,.int .i64 1])∧WAt w' plainW v∧Below w.heap.size w w':=by
 have HL:=Lib.hid (fun W (h1:GWL W) g h2 h3=>lay_any 1 plainP plainW g W h1 h2 h3 (by decide) plainP_ok.1 plainP_ok.2.1 plainP_ok.2.2)
 go_enter Tryz.func107, Tryz.ntmps107
 go_wp2_with fail
 have B0:=Lib.hid (((Below.refl w.heap.size w).alloc (Nat.le_refl _) (.cells #[.slice none 0 0,.int .i64 0] 140)).alloc (by simp) (.cells (plainP.map fun l=>Value.string ⟨l.toArray⟩).toArray 9))
 refine (HL.out _ (hg.below B0.out) (w.heap.size + 1) (by simp) (parts_cells w _ plainP _)).mono ?_
 rintro e w1 ⟨g,rfl,hgb,hW,hb1⟩
 have B1:=Lib.hid (bthen B0.out hb1)
 have C1:=Lib.hid ((hb1.block w.heap.size (by simp;omega)).trans ((Below.heap_alloc _ _ _ (by simp)).trans (heap_alloc_new w _)))
 have hne:g ≠ w.heap.size:=by simp at hgb;omega
 have W1:=Lib.hid hW
 clear HL hb1 hW B0 hgb
 have c0:=cell_of_heap (i:=0) C1.out
 have c1:=cell_of_heap (i:=1) C1.out
 have f0:=frozen_of_heap (i:=0) C1.out
 have f1:=frozen_of_heap (i:=1) C1.out
 simp at c0 c1 f0 f1
 clear C1
 go_wp2_with fail
 exact bodyPost_ret (v:=.agg #[.slice (some ⟨g,0,none⟩) plainW.length plainW.length,.int .i64 1]) (by simp [results,Tryz.results107,go_sem,c0,c1]) rfl ⟨_,rfl,(W1.out.set hne _ _).set hne _ _,(B1.out.setCell (by simp) _).setCell (by simp) _⟩
def equalP:List (List UInt8):=[[74,66,32,74,78,66,32,74,90,32,74,78,90]]
theorem equalP_ok:Lib.fields (Lib.join equalP [32])=equalW∧(Lib.join equalP [32]).length ≤ 1000∧∀ c ∈ Lib.join equalP [32],c.toNat < 128:=by decide +kernel
set_option maxHeartbeats 400000 in
theorem equal_any (w:World) (hg:GWL w):Calls Tryz.prog 109 #[] w fun e w'=>∃ v,e=.returned (.agg #[v,.int .i64 42])∧WAt w' equalW v∧Below w.heap.size w w':=by
 have HL:=Lib.hid (fun W (h1:GWL W) g h2 h3=>lay_any 42 equalP equalW g W h1 h2 h3 (by decide) equalP_ok.1 equalP_ok.2.1 equalP_ok.2.2)
 go_enter Tryz.func109, Tryz.ntmps109
 go_wp2_with fail
 have B0:=Lib.hid (((Below.refl w.heap.size w).alloc (Nat.le_refl _) (.cells #[.slice none 0 0,.int .i64 0] 140)).alloc (by simp) (.cells (equalP.map fun l=>Value.string ⟨l.toArray⟩).toArray 9))
 refine (HL.out _ (hg.below B0.out) (w.heap.size + 1) (by simp) (parts_cells w _ equalP _)).mono ?_
 rintro e w1 ⟨g,rfl,hgb,hW,hb1⟩
 have B1:=Lib.hid (bthen B0.out hb1)
 have C1:=Lib.hid ((hb1.block w.heap.size (by simp;omega)).trans ((Below.heap_alloc _ _ _ (by simp)).trans (heap_alloc_new w _)))
 have hne:g ≠ w.heap.size:=by simp at hgb;omega
 have W1:=Lib.hid hW
 clear HL hb1 hW B0 hgb
 have c0:=cell_of_heap (i:=0) C1.out
 have c1:=cell_of_heap (i:=1) C1.out
 have f0:=frozen_of_heap (i:=0) C1.out
 have f1:=frozen_of_heap (i:=1) C1.out
 simp at c0 c1 f0 f1
 clear C1
 go_wp2_with fail
 exact bodyPost_ret (v:=.agg #[.slice (some ⟨g,0,none⟩) equalW.length equalW.length,.int .i64 42]) (by simp [results,Tryz.results109,go_sem,c0,c1]) rfl ⟨_,rfl,(W1.out.set hne _ _).set hne _ _,(B1.out.setCell (by simp) _).setCell (by simp) _⟩
def signP:List (List UInt8):=[[74,83,32,74,78,83,32,74,80,32,74,78,80]]
theorem signP_ok:Lib.fields (Lib.join signP [32])=signW∧(Lib.join signP [32]).length ≤ 1000∧∀ c ∈ Lib.join signP [32],c.toNat < 128:=by decide +kernel
set_option maxHeartbeats 400000 in
theorem sign_any (w:World) (hg:GWL w):Calls Tryz.prog 110 #[] w fun e w'=>∃ v,e=.returned (.agg #[v,.int .i64 48])∧WAt w' signW v∧Below w.heap.size w w':=by
 have HL:=Lib.hid (fun W (h1:GWL W) g h2 h3=>lay_any 48 signP signW g W h1 h2 h3 (by decide) signP_ok.1 signP_ok.2.1 signP_ok.2.2)
 go_enter Tryz.func110, Tryz.ntmps110
 go_wp2_with fail
 have B0:=Lib.hid (((Below.refl w.heap.size w).alloc (Nat.le_refl _) (.cells #[.slice none 0 0,.int .i64 0] 140)).alloc (by simp) (.cells (signP.map fun l=>Value.string ⟨l.toArray⟩).toArray 9))
 refine (HL.out _ (hg.below B0.out) (w.heap.size + 1) (by simp) (parts_cells w _ signP _)).mono ?_
 rintro e w1 ⟨g,rfl,hgb,hW,hb1⟩
 have B1:=Lib.hid (bthen B0.out hb1)
 have C1:=Lib.hid ((hb1.block w.heap.size (by simp;omega)).trans ((Below.heap_alloc _ _ _ (by simp)).trans (heap_alloc_new w _)))
 have hne:g ≠ w.heap.size:=by simp at hgb;omega
 have W1:=Lib.hid hW
 clear HL hb1 hW B0 hgb
 have c0:=cell_of_heap (i:=0) C1.out
 have c1:=cell_of_heap (i:=1) C1.out
 have f0:=frozen_of_heap (i:=0) C1.out
 have f1:=frozen_of_heap (i:=1) C1.out
 simp at c0 c1 f0 f1
 clear C1
 go_wp2_with fail
 exact bodyPost_ret (v:=.agg #[.slice (some ⟨g,0,none⟩) signW.length signW.length,.int .i64 48]) (by simp [results,Tryz.results110,go_sem,c0,c1]) rfl ⟨_,rfl,(W1.out.set hne _ _).set hne _ _,(B1.out.setCell (by simp) _).setCell (by simp) _⟩
def argsP:List (List UInt8):=[[65,76,32,67,76,32,68,76,32,66,76,32,65,72,32,67,72,32,68,72,32,66,72],[65,88,32,67,88,32,68,88,32,66,88,32,83,80,32,66,80,32,83,73,32,68,73],[91,66,88,93,32,91,83,73,93,32,91,110,110,93,32,110,110]]
theorem argsP_ok:Lib.fields (Lib.join argsP [32])=argsW∧(Lib.join argsP [32]).length ≤ 1000∧∀ c ∈ Lib.join argsP [32],c.toNat < 128:=by decide +kernel
set_option maxHeartbeats 400000 in
theorem args_any (w:World) (hg:GWL w):Calls Tryz.prog 111 #[] w fun e w'=>∃ v,e=.returned (.agg #[v,.int .i64 1])∧WAt w' argsW v∧Below w.heap.size w w':=by
 have HL:=Lib.hid (fun W (h1:GWL W) g h2 h3=>lay_any 1 argsP argsW g W h1 h2 h3 (by decide) argsP_ok.1 argsP_ok.2.1 argsP_ok.2.2)
 go_enter Tryz.func111, Tryz.ntmps111
 go_wp2_with fail
 have B0:=Lib.hid (((Below.refl w.heap.size w).alloc (Nat.le_refl _) (.cells #[.slice none 0 0,.int .i64 0] 140)).alloc (by simp) (.cells (argsP.map fun l=>Value.string ⟨l.toArray⟩).toArray 9))
 refine (HL.out _ (hg.below B0.out) (w.heap.size + 1) (by simp) (parts_cells w _ argsP _)).mono ?_
 rintro e w1 ⟨g,rfl,hgb,hW,hb1⟩
 have B1:=Lib.hid (bthen B0.out hb1)
 have C1:=Lib.hid ((hb1.block w.heap.size (by simp;omega)).trans ((Below.heap_alloc _ _ _ (by simp)).trans (heap_alloc_new w _)))
 have hne:g ≠ w.heap.size:=by simp at hgb;omega
 have W1:=Lib.hid hW
 clear HL hb1 hW B0 hgb
 have c0:=cell_of_heap (i:=0) C1.out
 have c1:=cell_of_heap (i:=1) C1.out
 have f0:=frozen_of_heap (i:=0) C1.out
 have f1:=frozen_of_heap (i:=1) C1.out
 simp at c0 c1 f0 f1
 clear C1
 go_wp2_with fail
 exact bodyPost_ret (v:=.agg #[.slice (some ⟨g,0,none⟩) argsW.length argsW.length,.int .i64 1]) (by simp [results,Tryz.results111,go_sem,c0,c1]) rfl ⟨_,rfl,(W1.out.set hne _ _).set hne _ _,(B1.out.setCell (by simp) _).setCell (by simp) _⟩
set_option maxHeartbeats 400000 in
theorem of_any (ws:List (List UInt8)) (f c:Int) (v:Value) (w:World) (hW:WAt w ws v) (hf:0 ≤ f) (hf':f ≤ 100) (hc:-9223372036854775808 ≤ c) (hc':c ≤ 9223372036854775807) (hl:ws.length ≤ 1000) :
  Calls Tryz.prog 108 #[.agg #[v,.int .i64 f],.int .i64 c] w fun e w'=>e=.returned (.string ⟨(ofL ws f c).toArray⟩)∧Below w.heap.size w w':=by
 obtain ⟨g,rfl,hg,hcell⟩:=hW
 by_cases h1:c < f
 ·have HO:=Lib.hid (ofL_lo ws f c h1)
  clear hcell
  go_enter Tryz.func108, Tryz.ntmps108
  go_wp2_with fail
  go_ret
  rw [HO.out]
  exact ⟨rfl,(Below.refl _ _).alloc (Nat.le_refl _) _⟩
 ·obtain ⟨k,rfl⟩:∃ k:Nat,c=f + k:=⟨(c - f).toNat,by omega⟩
  have h2:f ≤ f + k:=by omega
  by_cases h3:ws.length ≤ k
  ·have HO:=Lib.hid (ofL_hi ws f (f + k) (by omega))
   clear hcell
   go_enter Tryz.func108, Tryz.ntmps108
   go_wp2_with fail
   go_ret
   rw [HO.out]
   exact ⟨rfl,(Below.refl _ _).alloc (Nat.le_refl _) _⟩
  ·have hk:k < ws.length:=by omega
   have HO:=Lib.hid (show ofL ws f (f + k)=ws[k] by unfold ofL;rw [if_neg (by omega)];simp [show (f + (k:Int) - f).toNat=k by omega,hk])
   have d:w.cell? ⟨g,(f + (k:Int) - f).toNat,none⟩=some (.string ⟨ws[k].toArray⟩):=by rw [show (f + (k:Int) - f).toNat=k by omega];exact hcell k hk
   clear hcell h1
   generalize ws[k]=x at *
   go_enter Tryz.func108, Tryz.ntmps108
   go_wp2_with fail
   go_ret
   rw [HO.out]
   exact ⟨rfl,(Below.refl _ _).alloc (Nat.le_refl _) _⟩
theorem ofL_len (ws:List (List UInt8)) (h:∀ s ∈ ws,s.length ≤ 10) (f c:Int):(ofL ws f c).length ≤ 10:=by
 unfold ofL
 split
 ·simp
 ·rw [List.getD_eq_getElem?_getD]
  cases hx:ws[(c - f).toNat]? with
  | none=>simp
  | some x=>simpa using h x (List.mem_of_getElem? hx)
theorem plain_len (f c:Int):(ofL plainW f c).length ≤ 10:=ofL_len _ (by decide +kernel) f c
theorem equal_len (f c:Int):(ofL equalW f c).length ≤ 10:=ofL_len _ (by decide +kernel) f c
theorem sign_len (f c:Int):(ofL signW f c).length ≤ 10:=ofL_len _ (by decide +kernel) f c
theorem field_words (A:Option Addr) (n m:Nat) (f:Int) (w:World):Sem.run Tryz.prog (Instr.field 140 (.agg #[.slice A n m,.int .i64 f]) 0) w=.ok (.agg #[.slice A n m,.int .i64 f]) w:=by kernel_rfl
attribute [go_sem] field_words
set_option maxHeartbeats 1000000 in
set_option maxRecDepth 100000 in
theorem nameX_any (c:Int) (w:World) (hg:GWL w) (hc:-9223372036854775808 ≤ c) (hc':c ≤ 9223372036854775807) :
  Calls Tryz.prog 64 #[.int .i64 c] w fun e w'=>e=.returned (.string ⟨(nameL c).toArray⟩)∧Below w.heap.size w w':=by
 have HO:=Lib.hid (fun ws f v W (hW:WAt W ws v) h1 h2 h3=>of_any ws f c v W hW h1 h2 hc hc' h3)
 have l1:=plain_len 1 c
 have l2:=equal_len 42 c
 have l3:=sign_len 48 c
 have HN:=Lib.hid (show nameL c=ofL plainW 1 c ++ ofL equalW 42 c ++ ofL signW 48 c from rfl)
 go_enter Tryz.func64, Tryz.ntmps64
 go_wp2_with fail
 refine (plain_any _ hg).mono ?_
 rintro e w1 ⟨v1,rfl,hW1',hb1'⟩
 obtain ⟨g1,n1,rfl⟩:=hW1'.form
 have hW1:=Lib.hid hW1'
 have hb1:=Lib.hid hb1'
 clear hW1' hb1'
 go_wp2_with fail
 refine (HO.out plainW 1 _ w1 hW1.out (by omega) (by omega) (by decide)).mono ?_
 rintro e w2 ⟨rfl,hb2⟩
 have B2:=Lib.hid (bthen hb1.out hb2)
 clear hb1 hb2 hW1
 go_wp2_with fail
 refine (equal_any _ (hg.below B2.out)).mono ?_
 rintro e w3 ⟨v3,rfl,hW3',hb3'⟩
 obtain ⟨g3,n3,rfl⟩:=hW3'.form
 have hW3:=Lib.hid hW3'
 have hb3:=Lib.hid hb3'
 clear hW3' hb3'
 go_wp2_with fail
 refine (HO.out equalW 42 _ w3 hW3.out (by omega) (by omega) (by decide)).mono ?_
 rintro e w4 ⟨rfl,hb4⟩
 have B4:=Lib.hid (bthen (bthen B2.out hb3.out) hb4)
 clear hb3 hb4 hW3
 go_wp2_with fail
 refine (sign_any _ (hg.below B4.out)).mono ?_
 rintro e w5 ⟨v5,rfl,hW5',hb5'⟩
 obtain ⟨g5,n5,rfl⟩:=hW5'.form
 have hW5:=Lib.hid hW5'
 have hb5:=Lib.hid hb5'
 clear hW5' hb5'
 go_wp2_with fail
 refine (HO.out signW 48 _ w5 hW5.out (by omega) (by omega) (by decide)).mono ?_
 rintro e w6 ⟨rfl,hb6⟩
 have B6:=Lib.hid (bthen (bthen B4.out hb5.out) hb6)
 clear hb5 hb6 hW5
 go_wp2_with fail
 go_ret
 rw [HN.out,List.append_assoc]
 exact ⟨rfl,B6.out⟩
set_option maxHeartbeats 1000000 in
set_option maxRecDepth 100000 in
theorem argX_any (c:Int) (w:World) (hg:GWL w) (hc:-9223372036854775808 ≤ c) (hc':c ≤ 9223372036854775807) :
  Calls Tryz.prog 65 #[.int .i64 c] w fun e w'=>e=.returned (.string ⟨(argL c).toArray⟩)∧Below w.heap.size w w':=by
 have HN:=Lib.hid (show argL c=ofL argsW 1 c from rfl)
 go_enter Tryz.func65, Tryz.ntmps65
 go_wp2_with fail
 refine (args_any _ hg).mono ?_
 rintro e w1 ⟨v1,rfl,hW1',hb1'⟩
 obtain ⟨g1,n1,rfl⟩:=hW1'.form
 have hW1:=Lib.hid hW1'
 have hb1:=Lib.hid hb1'
 clear hW1' hb1'
 go_wp2_with fail
 refine (of_any argsW 1 c _ w1 hW1.out (by omega) (by omega) hc hc' (by decide)).mono ?_
 rintro e w2 ⟨rfl,hb2⟩
 go_wp2_with fail
 go_ret
 rw [HN.out]
 exact ⟨rfl,bthen hb1.out hb2⟩
end Go.Proofs.YtagplldaooipmaaGreatDoor
