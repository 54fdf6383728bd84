/- Wt. -/
import Derived.Test.YtbdnbfacalfciaaGreatDoorKd
import Derived.Test.YtbdnbfacalfciaaGreatDoorKa
import Derived.Test.YtbdnbfacalfciaaGreatDoorShelf
import Derived.Test.YtbdnbfacalfciaaGreatDoorKm
import Derived.Lib.SmallJoins
import Derived.Deep.QuietTactic
import Derived.BigQuiet
namespace Go.Proofs.YtbdnbfacalfciaaGreatDoor
set_option maxRecDepth 100000
set_option maxHeartbeats 1000000
open Go.RowKit
theorem lay_any (f:Int) (xs ws:List (List UInt8)) (g:Nat) (w:World) (hg:GWL w) (hb:g<w.heap.size) (hc:∀ j (hj:j<xs.length),w.cell? ⟨g,j,none⟩=some (.string ⟨xs[j].toArray⟩)) (hn:xs.length<=1000)
  (hw:Lib.fields (Lib.join xs [32])=ws) (hl:(Lib.join xs [32]).length<=1000) (ha:∀ c∈Lib.join xs [32],c.toNat<128) :
  Calls Tryz.prog 327 #[.int .i64 f,.slice (some ⟨g,0,none⟩) xs.length xs.length] w fun e w'=>∃ g,e=.returned (.agg #[.slice (some ⟨g,0,none⟩) ws.length ws.length,.int .i64 f])/\w.heap.size<=g/\WAt w' ws (.slice (some ⟨g,0,none⟩) ws.length ws.length)/\Below w.heap.size w w':=by
 have HJ:=LH (fun W (hW:Below w.heap.size w W)=>Tryz.strings_Join g 0 xs.length (xs.map fun s=>⟨s.toArray⟩) ⟨#[32]⟩ W (fun j x hx=>by
  simp at hx
  obtain ⟨a,hx,rfl⟩:=hx
  obtain ⟨hj,rfl⟩:=List.getElem?_eq_some_iff.1 hx
  rw [Nat.zero_add,hW.cell (p:=⟨g,j,none⟩) hb]
  exact hc j hj) (Nat.lt_of_lt_of_le hb hW.size) (by simp;omega) (by simp) (by simp;simpa [Function.comp_def] using (show (Lib.join xs [32]).length<=140737488355328 by omega)))
 have HF:=LH (fun W (hW:GWL W)=>Tryz.strings_Fields ⟨(Lib.join xs [32]).toArray⟩ W (by simp [ByteArray.size];omega) (fun j b hb=>ha b (List.mem_of_getElem? hb)) hW.1)
 simp only [List.length_map,List.map_map,Function.comp_def] at HJ
 go_enter Tryz.func327, Tryz.ntmps327
 go_wp2_with fail
 refine (HJ.out _ ((Below.refl _ _).alloc (Nat.le_refl _) _)).mono ?_
 rintro e w1 ⟨rfl,hb1⟩
 have B1:=LH (bthen ((Below.refl w.heap.size w).alloc (Nat.le_refl _) _) hb1)
 have C1:=LH ((hb1.block w.heap.size (by simp)).trans (heap_alloc_new w _))
 go_wp2_with fail
 refine (HF.out _ (hg.below B1.out)).mono ?_
 rintro e w2 ⟨rfl,rfl⟩
 have W2:=LH (fields_laid w1 ws)
 simp only [hw]
 have C2:=LH ((Below.heap_alloc w1 (.cells (ws.map fun l=>Value.string ⟨l.toArray⟩).toArray 9) w.heap.size (loh C1.out)).trans C1.out)
 have c0:=coh (i:=0) C2.out
 have c1:=coh (i:=1) C2.out
 have f0:=foh (i:=0) C2.out
 have f1:=foh (i:=1) C2.out
 have B2:=LH (B1.out.alloc B1.out.size (.cells (ws.map fun l=>Value.string ⟨l.toArray⟩).toArray 9))
 have L2:=LH (loh C2.out)
 simp at c0 c1 f0 f1
 generalize w1.alloc (.cells (ws.map fun l=>Value.string ⟨l.toArray⟩).toArray 9)=w3 at *
 have hne:w1.heap.size≠w.heap.size:=by have:=loh C1.out;omega
 clear C1 C2 hb1 HJ HF
 go_wp2_with fail
 refine bodyPost_ret (v:=.agg #[.slice (some ⟨w1.heap.size,0,none⟩) ws.length ws.length,.int .i64 f]) (by simp [results,Tryz.results327,go_sem,c0,c1]) rfl ⟨_,rfl,B1.out.size,(W2.out.set hne _ _).set hne _ _,(B2.out.setCell (by simp) _).setCell (by simp) _⟩
def plainP:List (List UInt8):=[[77,79,86,32,65,68,68,32,79,82,32,65,68,67,32,83,66,66,32,65,78,68,32,83,85,66,32,88,79,82,32,67,77,80,32,73,78,67,32,68,69,67,32,82,79,76,32,82,79,82,32,82,67,76,32,82,67,82,32,78,79,84,32,88,67,72,71,32,80,85,83,72,32,80,79,80],[76,65,72,70,32,83,65,72,70,32,68,65,65,32,67,77,67,32,83,84,67,32,67,76,67,32,83,84,73,32,67,76,73,32,72,76,84,32,78,79,80,32,73,78,32,79,85,84,32,74,77,80,32,74,77,80,83,32,67,65,76,76,32,82,69,84]]
theorem plainP_ok:Lib.fields (Lib.join plainP [32])=plainW/\(Lib.join plainP [32]).length<=1000/\∀ c∈Lib.join plainP [32],c.toNat<128:=by decide +kernel
theorem plain_any (w:World) (hg:GWL w):Calls Tryz.prog 318 #[] w fun e w'=>∃ v,e=.returned (.agg #[v,.int .i64 1])/\WAt w' plainW v/\Below w.heap.size w w':=by
 have HL:=LH (fun W (h1:GWL W) g h2 h3=>lay_any 1 plainP plainW g W h1 h2 h3 (by decide) plainP_ok.1 plainP_ok.2.1 plainP_ok.2.2)
 go_enter Tryz.func318, Tryz.ntmps318
 go_wp2_with fail
 have B0:=LH (((Below.refl w.heap.size w).alloc (Nat.le_refl _) (.cells #[.slice none 0 0,.int .i64 0] 412)).alloc (by simp) (.cells (plainP.map fun l=>Value.string ⟨l.toArray⟩).toArray 9))
 refine (HL.out _ (hg.below B0.out) (w.heap.size+1) (by simp) (parts_cells w _ plainP _)).mono ?_
 rintro e w1 ⟨g,rfl,hgb,hW,hb1⟩
 have B1:=LH (bthen B0.out hb1)
 have C1:=LH ((hb1.block w.heap.size (by simp;omega)).trans ((Below.heap_alloc _ _ _ (by simp)).trans (heap_alloc_new w _)))
 have hne:g≠w.heap.size:=by simp at hgb;omega
 have W1:=LH hW
 clear HL hb1 hW B0 hgb
 have c0:=coh (i:=0) C1.out
 have c1:=coh (i:=1) C1.out
 have f0:=foh (i:=0) C1.out
 have f1:=foh (i:=1) C1.out
 simp at c0 c1 f0 f1
 clear C1
 go_wp2_with fail
 exact bodyPost_ret (v:=.agg #[.slice (some ⟨g,0,none⟩) plainW.length plainW.length,.int .i64 1]) (by simp [results,Tryz.results318,go_sem,c0,c1]) rfl ⟨_,rfl,(W1.out.set hne _ _).set hne _ _,(B1.out.setCell (by simp) _).setCell (by simp) _⟩
def equalP:List (List UInt8):=[[74,66,32,74,78,66,32,74,90,32,74,78,90]]
theorem equalP_ok:Lib.fields (Lib.join equalP [32])=equalW/\(Lib.join equalP [32]).length<=1000/\∀ c∈Lib.join equalP [32],c.toNat<128:=by decide +kernel
theorem equal_any (w:World) (hg:GWL w):Calls Tryz.prog 319 #[] w fun e w'=>∃ v,e=.returned (.agg #[v,.int .i64 42])/\WAt w' equalW v/\Below w.heap.size w w':=by
 have HL:=LH (fun W (h1:GWL W) g h2 h3=>lay_any 42 equalP equalW g W h1 h2 h3 (by decide) equalP_ok.1 equalP_ok.2.1 equalP_ok.2.2)
 go_enter Tryz.func319, Tryz.ntmps319
 go_wp2_with fail
 have B0:=LH (((Below.refl w.heap.size w).alloc (Nat.le_refl _) (.cells #[.slice none 0 0,.int .i64 0] 412)).alloc (by simp) (.cells (equalP.map fun l=>Value.string ⟨l.toArray⟩).toArray 9))
 refine (HL.out _ (hg.below B0.out) (w.heap.size+1) (by simp) (parts_cells w _ equalP _)).mono ?_
 rintro e w1 ⟨g,rfl,hgb,hW,hb1⟩
 have B1:=LH (bthen B0.out hb1)
 have C1:=LH ((hb1.block w.heap.size (by simp;omega)).trans ((Below.heap_alloc _ _ _ (by simp)).trans (heap_alloc_new w _)))
 have hne:g≠w.heap.size:=by simp at hgb;omega
 have W1:=LH hW
 clear HL hb1 hW B0 hgb
 have c0:=coh (i:=0) C1.out
 have c1:=coh (i:=1) C1.out
 have f0:=foh (i:=0) C1.out
 have f1:=foh (i:=1) C1.out
 simp at c0 c1 f0 f1
 clear C1
 go_wp2_with fail
 exact bodyPost_ret (v:=.agg #[.slice (some ⟨g,0,none⟩) equalW.length equalW.length,.int .i64 42]) (by simp [results,Tryz.results319,go_sem,c0,c1]) rfl ⟨_,rfl,(W1.out.set hne _ _).set hne _ _,(B1.out.setCell (by simp) _).setCell (by simp) _⟩
def signP:List (List UInt8):=[[74,83,32,74,78,83,32,74,80,32,74,78,80]]
theorem signP_ok:Lib.fields (Lib.join signP [32])=signW/\(Lib.join signP [32]).length<=1000/\∀ c∈Lib.join signP [32],c.toNat<128:=by decide +kernel
theorem sign_any (w:World) (hg:GWL w):Calls Tryz.prog 320 #[] w fun e w'=>∃ v,e=.returned (.agg #[v,.int .i64 48])/\WAt w' signW v/\Below w.heap.size w w':=by
 have HL:=LH (fun W (h1:GWL W) g h2 h3=>lay_any 48 signP signW g W h1 h2 h3 (by decide) signP_ok.1 signP_ok.2.1 signP_ok.2.2)
 go_enter Tryz.func320, Tryz.ntmps320
 go_wp2_with fail
 have B0:=LH (((Below.refl w.heap.size w).alloc (Nat.le_refl _) (.cells #[.slice none 0 0,.int .i64 0] 412)).alloc (by simp) (.cells (signP.map fun l=>Value.string ⟨l.toArray⟩).toArray 9))
 refine (HL.out _ (hg.below B0.out) (w.heap.size+1) (by simp) (parts_cells w _ signP _)).mono ?_
 rintro e w1 ⟨g,rfl,hgb,hW,hb1⟩
 have B1:=LH (bthen B0.out hb1)
 have C1:=LH ((hb1.block w.heap.size (by simp;omega)).trans ((Below.heap_alloc _ _ _ (by simp)).trans (heap_alloc_new w _)))
 have hne:g≠w.heap.size:=by simp at hgb;omega
 have W1:=LH hW
 clear HL hb1 hW B0 hgb
 have c0:=coh (i:=0) C1.out
 have c1:=coh (i:=1) C1.out
 have f0:=foh (i:=0) C1.out
 have f1:=foh (i:=1) C1.out
 simp at c0 c1 f0 f1
 clear C1
 go_wp2_with fail
 exact bodyPost_ret (v:=.agg #[.slice (some ⟨g,0,none⟩) signW.length signW.length,.int .i64 48]) (by simp [results,Tryz.results320,go_sem,c0,c1]) rfl ⟨_,rfl,(W1.out.set hne _ _).set hne _ _,(B1.out.setCell (by simp) _).setCell (by simp) _⟩
def argsP:List (List UInt8):=[[65,76,32,67,76,32,68,76,32,66,76,32,65,72,32,67,72,32,68,72,32,66,72],[65,88,32,67,88,32,68,88,32,66,88,32,83,80,32,66,80,32,83,73,32,68,73],[91,66,88,93,32,91,83,73,93,32,91,110,110,93,32,110,110]]
theorem argsP_ok:Lib.fields (Lib.join argsP [32])=argsW/\(Lib.join argsP [32]).length<=1000/\∀ c∈Lib.join argsP [32],c.toNat<128:=by decide +kernel
theorem args_any (w:World) (hg:GWL w):Calls Tryz.prog 328 #[] w fun e w'=>∃ v,e=.returned (.agg #[v,.int .i64 1])/\WAt w' argsW v/\Below w.heap.size w w':=by
 have HL:=LH (fun W (h1:GWL W) g h2 h3=>lay_any 1 argsP argsW g W h1 h2 h3 (by decide) argsP_ok.1 argsP_ok.2.1 argsP_ok.2.2)
 go_enter Tryz.func328, Tryz.ntmps328
 go_wp2_with fail
 have B0:=LH (((Below.refl w.heap.size w).alloc (Nat.le_refl _) (.cells #[.slice none 0 0,.int .i64 0] 412)).alloc (by simp) (.cells (argsP.map fun l=>Value.string ⟨l.toArray⟩).toArray 9))
 refine (HL.out _ (hg.below B0.out) (w.heap.size+1) (by simp) (parts_cells w _ argsP _)).mono ?_
 rintro e w1 ⟨g,rfl,hgb,hW,hb1⟩
 have B1:=LH (bthen B0.out hb1)
 have C1:=LH ((hb1.block w.heap.size (by simp;omega)).trans ((Below.heap_alloc _ _ _ (by simp)).trans (heap_alloc_new w _)))
 have hne:g≠w.heap.size:=by simp at hgb;omega
 have W1:=LH hW
 clear HL hb1 hW B0 hgb
 have c0:=coh (i:=0) C1.out
 have c1:=coh (i:=1) C1.out
 have f0:=foh (i:=0) C1.out
 have f1:=foh (i:=1) C1.out
 simp at c0 c1 f0 f1
 clear C1
 go_wp2_with fail
 exact bodyPost_ret (v:=.agg #[.slice (some ⟨g,0,none⟩) argsW.length argsW.length,.int .i64 1]) (by simp [results,Tryz.results328,go_sem,c0,c1]) rfl ⟨_,rfl,(W1.out.set hne _ _).set hne _ _,(B1.out.setCell (by simp) _).setCell (by simp) _⟩
theorem field_words (A:Option Addr) (n m:Nat) (f:Int) (w:World):Sem.run Tryz.prog (Instr.field 412 (.agg #[.slice A n m,.int .i64 f]) 0) w=.ok (.agg #[.slice A n m,.int .i64 f]) w:=by kernel_rfl
attribute [go_sem] field_words
theorem idx_eq (x:List UInt8):∀ (ws:List (List UInt8)) (i:Nat),Lib.idxFromS (ws.map fun s=>⟨s.toArray⟩) ⟨x.toArray⟩ i=idxL ws x i
 | [],_=>rfl
 | z :: zs,i=>by
  rw [List.map_cons,Lib.idxFromS,idxL,idx_eq x zs (i+1)]
  by_cases h:z=x
  ·rw [if_pos h,if_pos (by rw [h])]
  ·rw [if_neg h,if_neg (fun h'=>h (by simpa using h'))]
theorem index_any (ws:List (List UInt8)) (x:List UInt8) (g:Nat) (w:World) (hl:ws.length<=1000) (hc:∀ j (hj:j<ws.length),w.cell? ⟨g,j,none⟩=some (.string ⟨ws[j].toArray⟩)) :
  Calls Tryz.prog 215 #[.slice (some ⟨g,0,none⟩) ws.length ws.length,.string ⟨x.toArray⟩] w fun e w'=>e=.returned (.int .i64 (idxL ws x 0))/\w=w':=by
 refine (Tryz.slices_Index_string g 0 ws.length ws.length (ws.map fun s=>⟨s.toArray⟩) ⟨x.toArray⟩ w (by simp) (by omega) (fun j hj=>?_)).mono ?_
 ·simp at hj
  rw [Nat.zero_add,hc j hj]
  simp [hj]
 ·rintro e w' ⟨rfl,rfl⟩
  refine ⟨?_,rfl⟩
  rw [List.take_of_length_le (by simp),Lib.idxOfS,idx_eq]
theorem code_any (ws:List (List UInt8)) (f:Int) (s:List UInt8) (v:Value) (w:World) (hW:WAt w ws v) (hf:0<=f) (hf':f<=100) (hl:ws.length<=1000) :
  Calls Tryz.prog 321 #[.agg #[v,.int .i64 f],.string ⟨s.toArray⟩] w fun e w'=>e=.returned (.tuple #[.int .i64 (codeL ws f s).1,.bool (codeL ws f s).2])/\Below w.heap.size w w':=by
 obtain ⟨g,rfl,hg,hcell⟩:=hW
 have HI:=LH (fun W (hW:Below w.heap.size w W)=>index_any ws s g W hl (fun j hj=>(hW.cell (p:=⟨g,j,none⟩) hg).trans (hcell j hj)))
 have hb:=idxL_bound s ws 0
 have HC:=LH (show codeL ws f s=if idxL ws s 0<0∨s = [] then (0,false) else (f+idxL ws s 0,true) from rfl)
 clear hcell
 generalize idxL ws s 0=i at *
 by_cases h1:i<0
 ·have HO:=LH (show codeL ws f s=(0,false) by rw [HC.out,if_pos (.inl h1)])
  go_enter Tryz.func321, Tryz.ntmps321
  go_wp2_with fail
  refine (HI.out _ ((Below.refl _ _).alloc (Nat.le_refl _) _)).mono ?_
  rintro e w1 ⟨rfl,rfl⟩
  go_wp2_with fail
  go_ret2
  rw [HO.out]
  exact ⟨rfl,(Below.refl _ _).alloc (Nat.le_refl _) _⟩
 ·have h2:0<=i:=by omega
  cases s with
  | nil=>
   have HO:=LH (show codeL ws f []=(0,false) by rw [HC.out,if_pos (.inr rfl)])
   go_enter Tryz.func321, Tryz.ntmps321
   go_wp2_with fail
   refine (HI.out _ ((Below.refl _ _).alloc (Nat.le_refl _) _)).mono ?_
   rintro e w1 ⟨rfl,rfl⟩
   go_wp2_with fail
   go_ret2
   rw [HO.out]
   exact ⟨rfl,(Below.refl _ _).alloc (Nat.le_refl _) _⟩
  | cons a r=>
   have HO:=LH (show codeL ws f (a :: r)=(f+i,true) by rw [HC.out,if_neg (by simp;omega)])
   go_enter Tryz.func321, Tryz.ntmps321
   go_wp2_with fail
   refine (HI.out _ ((Below.refl _ _).alloc (Nat.le_refl _) _)).mono ?_
   rintro e w1 ⟨rfl,rfl⟩
   go_wp2_with fail
   go_ret2
   rw [HO.out]
   exact ⟨rfl,(Below.refl _ _).alloc (Nat.le_refl _) _⟩
theorem Code9_any (s:List UInt8) (w:World) (hg:GWL w) :
  Calls Tryz.prog 322 #[.string ⟨s.toArray⟩] w fun e w'=>e=.returned (.tuple #[.int .i64 (acodeL s).1,.bool (acodeL s).2])/\Below w.heap.size w w':=by
 have HN:=LH (show acodeL s=codeL argsW 1 s from rfl)
 go_enter Tryz.func322, Tryz.ntmps322
 go_wp2_with fail
 refine (args_any _ hg).mono ?_
 rintro e w1 ⟨v1,rfl,hW1',hb1'⟩
 obtain ⟨g1,n1,rfl⟩:=hW1'.form
 have hW1:=LH hW1'
 have hb1:=LH hb1'
 clear hW1' hb1'
 go_wp2_with fail
 refine (code_any argsW 1 s _ w1 hW1.out (by omega) (by omega) (by decide)).mono ?_
 rintro e w2 ⟨rfl,hb2⟩
 go_wp2_with fail
 go_ret2
 rw [HN.out]
 exact ⟨rfl,bthen hb1.out hb2⟩
theorem index_0 (A A' A'':Option Addr) (n n' n'':Nat) (f f' f'':Int) (w:World):Sem.run Tryz.prog (Instr.index 414 (.agg #[.slice A n n,.int .i64 f,.slice A' n' n',.int .i64 f',.slice A'' n'' n'',.int .i64 f'']) (.int .i64 0)) w=.ok (.agg #[.slice A n n,.int .i64 f]) w:=by kernel_rfl
theorem index_1 (A A' A'':Option Addr) (n n' n'':Nat) (f f' f'':Int) (w:World):Sem.run Tryz.prog (Instr.index 414 (.agg #[.slice A n n,.int .i64 f,.slice A' n' n',.int .i64 f',.slice A'' n'' n'',.int .i64 f'']) (.int .i64 1)) w=.ok (.agg #[.slice A' n' n',.int .i64 f']) w:=by kernel_rfl
theorem index_2 (A A' A'':Option Addr) (n n' n'':Nat) (f f' f'':Int) (w:World):Sem.run Tryz.prog (Instr.index 414 (.agg #[.slice A n n,.int .i64 f,.slice A' n' n',.int .i64 f',.slice A'' n'' n'',.int .i64 f'']) (.int .i64 2)) w=.ok (.agg #[.slice A'' n'' n'',.int .i64 f'']) w:=by kernel_rfl
attribute [go_sem] index_0 index_1 index_2
def OpRel (s:List UInt8) (w:World) (i:Value) (wr:World):Prop:=∃ k:Nat,k<=3/\i=.int .i64 k/\(1<=k->(codeL plainW 1 s).2=false)/\(2<=k->(codeL equalW 42 s).2=false)/\(3<=k->(codeL signW 48 s).2=false)/\Below w.heap.size w wr
theorem Op9_any (s:List UInt8) (w:World) (hg:GWL w) :
  Calls Tryz.prog 309 #[.string ⟨s.toArray⟩] w fun e w'=>e=.returned (.tuple #[.int .i64 (opL s).1,.bool (opL s).2])/\Below w.heap.size w w':=by
 go_enter Tryz.func309, Tryz.ntmps309
 go_wp2_with fail
 refine (plain_any _ hg).mono ?_
 rintro e w1 ⟨v1,rfl,hW1',hb1'⟩
 obtain ⟨g1,n1,rfl⟩:=hW1'.form
 have hW1:=LH hW1'
 have hb1:=LH hb1'
 clear hW1' hb1'
 go_wp2_with fail
 refine (equal_any _ (hg.below hb1.out)).mono ?_
 rintro e w3 ⟨v3,rfl,hW3',hb3'⟩
 obtain ⟨g3,n3,rfl⟩:=hW3'.form
 have hW3:=LH hW3'
 have hb3:=LH (bthen hb1.out hb3')
 have hW1':=LH (hW1.out.below hb3')
 clear hW3' hb3' hW1 hb1
 go_wp2_with fail
 refine (sign_any _ (hg.below hb3.out)).mono ?_
 rintro e w5 ⟨v5,rfl,hW5',hb5'⟩
 obtain ⟨g5,n5,rfl⟩:=hW5'.form
 have hb5:=LH (bthen hb3.out hb5')
 have hW1:=LH (hW1'.out.below hb5')
 have hW3':=LH (hW3.out.below hb5')
 have hW5:=LH hW5'
 clear hW5' hb5' hW3 hb3 hW1'
 go_wp2_with fail
 go_loopw [12] (fun i wr=>OpRel s w5 i wr) (fun i _=>3 - (intOf i).toNat)
 case atStart=>exact ⟨0,by omega,rfl,by simp,by simp,by simp,Below.refl _ _⟩
 case round=>
  obtain ⟨k,hk,rfl,q1,q2,q3,hbr'⟩:=hrel
  have hbr:=LH hbr'
  clear hbr'
  obtain rfl | rfl | rfl | rfl:k=0∨k=1∨k=2∨k=3:=by omega
  ·have HC:=LH (fun W (hW:Below w5.heap.size w5 W)=>code_any plainW 1 s _ W (hW1.out.below hW) (by omega) (by omega) (by decide))
   clear q1 q2 q3
   cases hq:(codeL plainW 1 s).2 with
   | true=>
    have HO:=LH (show opL s=((codeL plainW 1 s).1,true) by unfold opL;rw [if_pos hq,← hq])
    rw [hq] at HC
    generalize (codeL plainW 1 s).1=z at *
    clear hq
    go_wp2_with fail
    refine (HC.out _ (hbr.out.alloc hbr.out.size _)).mono ?_
    rintro e w7 ⟨rfl,hb7⟩
    have B7:=LH (bthen hb5.out (bthen (hbr.out.alloc hbr.out.size _) hb7))
    clear hb7
    go_wp2_with fail
    go_ret2
    rw [HO.out]
    exact ⟨rfl,B7.out⟩
   | false=>
    have HQ:=LH hq
    rw [hq] at HC
    generalize (codeL plainW 1 s).1=z at *
    clear hq
    go_wp2_with fail
    refine (HC.out _ (hbr.out.alloc hbr.out.size _)).mono ?_
    rintro e w7 ⟨rfl,hb7⟩
    have B7:=LH (bthen (hbr.out.alloc hbr.out.size _) hb7)
    clear hb7
    go_wp2_with fail
    go_roundw
    case rel=>exact ⟨1,by omega,by go_num,fun _=>HQ.out,fun h=>by omega,fun h=>by omega,B7.out⟩
    case measure=>simp [intOf]
  ·have HC:=LH (fun W (hW:Below w5.heap.size w5 W)=>code_any equalW 42 s _ W (hW3'.out.below hW) (by omega) (by omega) (by decide))
   have Q1:=LH (q1 (by omega))
   clear q1 q2 q3
   cases hq:(codeL equalW 42 s).2 with
   | true=>
    have HO:=LH (show opL s=((codeL equalW 42 s).1,true) by unfold opL;rw [if_neg (by rw [Q1.out];simp)];rw [if_pos hq,← hq])
    rw [hq] at HC
    generalize (codeL equalW 42 s).1=z at *
    clear hq
    go_wp2_with fail
    refine (HC.out _ (hbr.out.alloc hbr.out.size _)).mono ?_
    rintro e w7 ⟨rfl,hb7⟩
    have B7:=LH (bthen hb5.out (bthen (hbr.out.alloc hbr.out.size _) hb7))
    clear hb7
    go_wp2_with fail
    go_ret2
    rw [HO.out]
    exact ⟨rfl,B7.out⟩
   | false=>
    have HQ:=LH hq
    rw [hq] at HC
    generalize (codeL equalW 42 s).1=z at *
    clear hq
    go_wp2_with fail
    refine (HC.out _ (hbr.out.alloc hbr.out.size _)).mono ?_
    rintro e w7 ⟨rfl,hb7⟩
    have B7:=LH (bthen (hbr.out.alloc hbr.out.size _) hb7)
    clear hb7
    go_wp2_with fail
    go_roundw
    case rel=>exact ⟨2,by omega,by go_num,fun _=>Q1.out,fun _=>HQ.out,fun h=>by omega,B7.out⟩
    case measure=>simp [intOf]
  ·have HC:=LH (fun W (hW:Below w5.heap.size w5 W)=>code_any signW 48 s _ W (hW5.out.below hW) (by omega) (by omega) (by decide))
   have Q1:=LH (q1 (by omega))
   have Q2:=LH (q2 (by omega))
   clear q1 q2 q3
   cases hq:(codeL signW 48 s).2 with
   | true=>
    have HO:=LH (show opL s=((codeL signW 48 s).1,true) by unfold opL;rw [if_neg (by rw [Q1.out];simp)];rw [if_neg (by rw [Q2.out];simp)];rw [if_pos hq,← hq])
    rw [hq] at HC
    generalize (codeL signW 48 s).1=z at *
    clear hq
    go_wp2_with fail
    refine (HC.out _ (hbr.out.alloc hbr.out.size _)).mono ?_
    rintro e w7 ⟨rfl,hb7⟩
    have B7:=LH (bthen hb5.out (bthen (hbr.out.alloc hbr.out.size _) hb7))
    clear hb7
    go_wp2_with fail
    go_ret2
    rw [HO.out]
    exact ⟨rfl,B7.out⟩
   | false=>
    have HQ:=LH hq
    rw [hq] at HC
    generalize (codeL signW 48 s).1=z at *
    clear hq
    go_wp2_with fail
    refine (HC.out _ (hbr.out.alloc hbr.out.size _)).mono ?_
    rintro e w7 ⟨rfl,hb7⟩
    have B7:=LH (bthen (hbr.out.alloc hbr.out.size _) hb7)
    clear hb7
    go_wp2_with fail
    go_roundw
    case rel=>exact ⟨3,by omega,by go_num,fun _=>Q1.out,fun _=>Q2.out,fun _=>HQ.out,B7.out⟩
    case measure=>simp [intOf]
  ·have HO:=LH (show opL s=(0,false) by unfold opL;rw [if_neg (by rw [q1 (by omega)];simp),if_neg (by rw [q2 (by omega)];simp),if_neg (by rw [q3 (by omega)];simp)])
   clear q1 q2 q3
   go_wp2_with fail
   go_ret2
   rw [HO.out]
   exact ⟨rfl,bthen hb5.out hbr.out⟩
end Go.Proofs.YtbdnbfacalfciaaGreatDoor
