/- Ke. -/
import Derived.Test.YtagplldaooipmaaGreatDoorKa
import Derived.Test.YtagplldaooipmaaGreatDoorKb
import Derived.Test.YtagplldaooipmaaGreatDoorShelf
namespace Go.Proofs.YtagplldaooipmaaGreatDoor
open Go.RowKit
inductive SubAt (w:World) (S:Nat → Prop):Value → List Ex → Prop
 | mk (A:Option Addr) (c:Nat) (sub:List Ex) (vs:Nat → Value) (hc:sub.length ≤ c) (hm:sub.length ≤ maxLen)
   (hz:0 < sub.length → ∃ g o,A=some ⟨g,o,none⟩∧S g∧∀ i (hi:i < sub.length),w.cell? ⟨g,o + i * 4,none⟩=some (.string ⟨sub[i].op.toArray⟩)∧w.cell? ⟨g,o + i * 4 + 1,none⟩=some (.int .u16 sub[i].n)∧w.cell? ⟨g,o + i * 4 + 2,none⟩=some (.string ⟨sub[i].name.toArray⟩)∧w.cell? ⟨g,o + i * 4 + 3,none⟩=some (vs i))
   (hn:∀ i (hi:i < sub.length),sub[i].n ≤ 65535∧sub[i].op.length ≤ maxLen∧sub[i].name.length ≤ maxLen)
   (hs:∀ i (hi:i < sub.length),SubAt w S (vs i) sub[i].sub):SubAt w S (.slice A sub.length c) sub
theorem SubAt.keep {w w':World} {S S':Nat → Prop} {v:Value} {sub:List Ex} (h:SubAt w S v sub) (hk:∀ p:Addr,S p.block → w'.cell? p=w.cell? p) (hS:∀ g,S g → S' g):SubAt w' S' v sub:=by
 induction h with
 | mk A c sub vs hc hm hz hn hs ih=>
  refine .mk A c sub vs hc hm (fun h0=>?_) hn ih
  obtain ⟨g,o,h1,h2,h3⟩:=hz h0
  refine ⟨g,o,h1,hS g h2,fun i hi=>?_⟩
  obtain ⟨c0,c1,c2,c3⟩:=h3 i hi
  exact ⟨(hk _ h2).trans c0,(hk _ h2).trans c1,(hk _ h2).trans c2,(hk _ h2).trans c3⟩
theorem SubAt.nil (w:World) (S:Nat → Prop):SubAt w S (.slice none 0 0) []:=
 .mk none 0 [] (fun _=>.slice none 0 0) (by simp) (by simp) (fun h=>absurd h (by simp)) (fun i hi=>absurd hi (by simp)) (fun i hi=>absurd hi (by simp))
theorem SubAt.form {w:World} {S:Nat → Prop} {v:Value} {sub:List Ex} (h:SubAt w S v sub):∃ A c,v=.slice A sub.length c∧sub.length ≤ c∧sub.length ≤ maxLen:=by
 cases h with
 | mk A c sub vs hc hm hz hn hs=>exact ⟨A,c,rfl,hc,hm⟩
theorem SubAt.get0 {w:World} {S:Nat → Prop} {v0:Value} {A:Option Addr} {c:Nat} {sub:List Ex} (h:SubAt w S v0 sub) (hv:v0=.slice A sub.length c) (i:Nat) (hi:i < sub.length) :
  ∃ g o v,A=some ⟨g,o,none⟩∧S g∧w.cell? ⟨g,o + i * 4,none⟩=some (.string ⟨sub[i].op.toArray⟩)∧w.cell? ⟨g,o + i * 4 + 1,none⟩=some (.int .u16 sub[i].n)∧w.cell? ⟨g,o + i * 4 + 2,none⟩=some (.string ⟨sub[i].name.toArray⟩)∧w.cell? ⟨g,o + i * 4 + 3,none⟩=some v∧SubAt w S v sub[i].sub∧sub[i].n ≤ 65535∧sub[i].op.length ≤ maxLen∧sub[i].name.length ≤ maxLen:=by
 cases h with
 | mk A' c' sub vs hc hm hz hn hs=>
  injection hv with hA _ _
  subst hA
  obtain ⟨g,o,h1,h2,h3⟩:=hz (by omega)
  obtain ⟨c0,c1,c2,c3⟩:=h3 i hi
  exact ⟨g,o,vs i,h1,h2,c0,c1,c2,c3,hs i hi,(hn i hi).1,(hn i hi).2⟩
theorem SubAt.get {w:World} {S:Nat → Prop} {A:Option Addr} {c:Nat} {sub:List Ex} (h:SubAt w S (.slice A sub.length c) sub) (i:Nat) (hi:i < sub.length) :
  ∃ g o v,A=some ⟨g,o,none⟩∧S g∧w.cell? ⟨g,o + i * 4,none⟩=some (.string ⟨sub[i].op.toArray⟩)∧w.cell? ⟨g,o + i * 4 + 1,none⟩=some (.int .u16 sub[i].n)∧w.cell? ⟨g,o + i * 4 + 2,none⟩=some (.string ⟨sub[i].name.toArray⟩)∧w.cell? ⟨g,o + i * 4 + 3,none⟩=some v∧SubAt w S v sub[i].sub∧sub[i].n ≤ 65535∧sub[i].op.length ≤ maxLen∧sub[i].name.length ≤ maxLen:=h.get0 rfl i hi
def exCells (e:Ex) (v:Value):List Value:=[.string ⟨e.op.toArray⟩,.int .u16 e.n,.string ⟨e.name.toArray⟩,v]
def okE (e:Ex):Prop:=e.n ≤ 65535∧e.op.length ≤ maxLen∧e.name.length ≤ maxLen
theorem SubAt.bel {w w':World} {B:Nat} {v:Value} {sub:List Ex} (h:SubAt w (· < B) v sub) (hb:Below B w w'):SubAt w' (· < B) v sub:=h.keep (fun _ hp=>hb.cell hp) (fun _ h=>h)
theorem SubAt.more {w:World} {S S':Nat → Prop} {v:Value} {sub:List Ex} (h:SubAt w S v sub) (hS:∀ g,S g → S' g):SubAt w S' v sub:=h.keep (fun _ _=>rfl) hS
theorem SubAt.one {w:World} {S S':Nat → Prop} {v:Value} {e:Ex} (h:SubAt w S v e.sub) (hok:okE e) (hl:∀ g,S g → g < w.heap.size) (hS:∀ g,S g → S' g) (N:Nat) (hN:w.heap.size=N) (hn:S' N) (T:TypeId) :
  SubAt (w.alloc (.cells (exCells e v).toArray T)) S' (.slice (some ⟨N,0,none⟩) 1 1) [e]:=by
 subst hN
 refine .mk (some ⟨w.heap.size,0,none⟩) 1 [e] (fun _=>v) (by simp) (by unfold maxLen;simp) (fun _=>⟨w.heap.size,0,rfl,hn,fun i hi=>?_⟩) (fun i hi=>?_) (fun i hi=>?_)
 ·simp at hi
  subst hi
  exact ⟨new_at w _ T 0 _ rfl,new_at w _ T 1 _ rfl,new_at w _ T 2 _ rfl,new_at w _ T 3 _ rfl⟩
 ·simp at hi
  subst hi
  exact hok
 ·simp at hi
  subst hi
  exact h.keep (fun p hp=>World.cell?_alloc_lt _ _ _ (hl _ hp)) hS
theorem SubAt.two {w:World} {S S':Nat → Prop} {v v':Value} {e e':Ex} (h:SubAt w S v e.sub) (h':SubAt w S v' e'.sub) (hok:okE e) (hok':okE e') (hl:∀ g,S g → g < w.heap.size) (hS:∀ g,S g → S' g) (N:Nat) (hN:w.heap.size=N) (hn:S' N) (T:TypeId) :
  SubAt (w.alloc (.cells (exCells e v ++ exCells e' v').toArray T)) S' (.slice (some ⟨N,0,none⟩) 2 2) [e,e']:=by
 subst hN
 refine .mk (some ⟨w.heap.size,0,none⟩) 2 [e,e'] (fun i=>if i=0 then v else v') (by simp) (by unfold maxLen;simp) (fun _=>⟨w.heap.size,0,rfl,hn,fun i hi=>?_⟩) (fun i hi=>?_) (fun i hi=>?_)
 ·match i,hi with
  | 0,_=>exact ⟨new_at w _ T 0 _ rfl,new_at w _ T 1 _ rfl,new_at w _ T 2 _ rfl,new_at w _ T 3 _ rfl⟩
  | 1,_=>exact ⟨new_at w _ T 4 _ rfl,new_at w _ T 5 _ rfl,new_at w _ T 6 _ rfl,new_at w _ T 7 _ rfl⟩
 ·match i,hi with
  | 0,_=>exact hok
  | 1,_=>exact hok'
 ·match i,hi with
  | 0,_=>exact h.keep (fun p hp=>World.cell?_alloc_lt _ _ _ (hl _ hp)) hS
  | 1,_=>exact h'.keep (fun p hp=>World.cell?_alloc_lt _ _ _ (hl _ hp)) hS
end Go.Proofs.YtagplldaooipmaaGreatDoor
/- expr: binds, word, the parser's place. -/
namespace Go.Proofs.YtagplldaooipmaaGreatDoor
open Go.RowKit
theorem binds_no (o:List UInt8) (h:¬ (o=sNum ∨ o=sN ∨ o=sHere ∨ o=sNEG ∨ o = [42] ∨ o = [47] ∨ o=sMOD ∨ o=sSHL ∨ o=sSHR ∨ o = [43] ∨ o = [45] ∨ o=sNOT ∨ o=sAND ∨ o=sOR ∨ o=sXOR)):bindsE o=(0,0):=by
 simp only [not_or] at h
 obtain ⟨h1,h2,h3,h4,h5,h6,h7,h8,h9,h10,h11,h12,h13,h14,h15⟩:=h
 unfold bindsE
 simp only [h1,h2,h3,h4,h5,h6,h7,h8,h9,h10,h11,h12,h13,h14,h15,or_self,if_false]
set_option maxHeartbeats 4000000 in
theorem binds_any (o:List UInt8) (w:World):Calls Tryz.prog 141 #[.string ⟨o.toArray⟩] w fun e w'=>e=.returned (.tuple #[.int .i64 (bindsE o).1,.int .i64 (bindsE o).2])∧w=w':=by
 by_cases h:o=sNum ∨ o=sN ∨ o=sHere ∨ o=sNEG ∨ o = [42] ∨ o = [47] ∨ o=sMOD ∨ o=sSHL ∨ o=sSHR ∨ o = [43] ∨ o = [45] ∨ o=sNOT ∨ o=sAND ∨ o=sOR ∨ o=sXOR
 ·rcases h with rfl | rfl | rfl | rfl | rfl | rfl | rfl | rfl | rfl | rfl | rfl | rfl | rfl | rfl | rfl
  all_goals (
   go_enter Tryz.func141, Tryz.ntmps141
   go_wp2_with fail
   go_ret2
   exact ⟨rfl,rfl⟩)
 ·have HB:=Lib.hid (binds_no o h)
  simp only [not_or] at h
  obtain ⟨h1,h2,h3,h4,h5,h6,h7,h8,h9,h10,h11,h12,h13,h14,h15⟩:=h
  replace h1:(o == [35])=false:=by simpa using h1
  replace h2:(o == [110])=false:=by simpa using h2
  replace h3:(o == [36])=false:=by simpa using h3
  replace h4:(o == [78,69,71])=false:=by simpa using h4
  replace h5:(o == [42])=false:=by simpa using h5
  replace h6:(o == [47])=false:=by simpa using h6
  replace h7:(o == [77,79,68])=false:=by simpa using h7
  replace h8:(o == [83,72,76])=false:=by simpa using h8
  replace h9:(o == [83,72,82])=false:=by simpa using h9
  replace h10:(o == [43])=false:=by simpa using h10
  replace h11:(o == [45])=false:=by simpa using h11
  replace h12:(o == [78,79,84])=false:=by simpa using h12
  replace h13:(o == [65,78,68])=false:=by simpa using h13
  replace h14:(o == [79,82])=false:=by simpa using h14
  replace h15:(o == [88,79,82])=false:=by simpa using h15
  go_enter Tryz.func141, Tryz.ntmps141
  go_wp2_with fail
  go_ret2
  rw [HB.out]
  exact ⟨rfl,rfl⟩
set_option maxHeartbeats 4000000 in
theorem word_any (o:List UInt8) (w:World):Calls Tryz.prog 142 #[.string ⟨o.toArray⟩] w fun e w'=>e=.returned (.bool (wordE o))∧w=w':=by
 by_cases h:o=sOR ∨ o=sXOR ∨ o=sAND ∨ o=sNOT ∨ o=sMOD ∨ o=sSHL ∨ o=sSHR
 ·rcases h with rfl | rfl | rfl | rfl | rfl | rfl | rfl
  all_goals (
   go_enter Tryz.func142, Tryz.ntmps142
   go_wp2_with fail
   go_ret
   exact ⟨rfl,rfl⟩)
 ·have HB:=Lib.hid (show wordE o=false from decide_eq_false h)
  simp only [not_or] at h
  obtain ⟨h1,h2,h3,h4,h5,h6,h7⟩:=h
  replace h1:(o == [79,82])=false:=by simpa using h1
  replace h2:(o == [88,79,82])=false:=by simpa using h2
  replace h3:(o == [65,78,68])=false:=by simpa using h3
  replace h4:(o == [78,79,84])=false:=by simpa using h4
  replace h5:(o == [77,79,68])=false:=by simpa using h5
  replace h6:(o == [83,72,76])=false:=by simpa using h6
  replace h7:(o == [83,72,82])=false:=by simpa using h7
  go_enter Tryz.func142, Tryz.ntmps142
  go_wp2_with fail
  go_ret
  rw [HB.out]
  exact ⟨rfl,rfl⟩
theorem contains_any (ls:List (List UInt8)) (x:List UInt8) (g n:Nat) (w:World) (hn:n=ls.length) (hl:ls.length ≤ 1000) (hc:∀ j (hj:j < ls.length),w.cell? ⟨g,j,none⟩=some (.string ⟨ls[j].toArray⟩)) :
  Calls Tryz.prog 96 #[.slice (some ⟨g,0,none⟩) n n,.string ⟨x.toArray⟩] w fun e w'=>e=.returned (.bool (decide (x ∈ ls)))∧w=w':=by
 subst hn
 refine (Tryz.slices_Contains_string g 0 ls.length ls.length (ls.map fun s=>⟨s.toArray⟩) ⟨x.toArray⟩ w (by simp) (by omega) (fun j hj=>?_)).mono ?_
 ·simp at hj
  rw [Nat.zero_add,hc j hj]
  simp [hj]
 ·rintro e w' ⟨rfl,rfl⟩
  refine ⟨?_,rfl⟩
  congr 2
  rw [List.take_of_length_le (by simp),Bool.eq_iff_iff,Lib.containsS_iff]
  simp
theorem setCell_other {w:World} {b i:Nat} {u:Value} (p:Addr) (h:p.block ≠ b):(w.setCell ⟨b,i,none⟩ u).cell? p=w.cell? p:=World.cell?_of_block (Below.heap_setCell w ⟨b,i,none⟩ u p.block h)
theorem Rd.tail {w:World} {B c g o:Nat} {t:Tok} {r:List Tok} (h:Rd w B (.slice (some ⟨g,o,none⟩) (t :: r).length c) (t :: r).length (tokRow (t :: r))) (g' o':Nat) (hgo:0 < r.length → g'=g∧o'=o + 3) (c':Nat) (hc:r.length ≤ c'):Rd w B (.slice (some ⟨g',o',none⟩) r.length c') r.length (tokRow r):=by
 obtain ⟨A',c2,h1,h2,h3⟩:=h
 injection h1 with h1 _ _
 subst h1
 refine ⟨_,c',rfl,hc,fun h0=>?_⟩
 obtain ⟨rfl,rfl⟩:=hgo h0
 obtain ⟨g2,o2,h4,h5,h6⟩:=h3 (by simp)
 injection h4 with h4
 injection h4 with h4 h7 _
 subst h4 h7
 refine ⟨_,_,rfl,h5,fun j u hu=>?_⟩
 have:=h6 (j + 3) u (by
  have e:tokRow (t :: r)=tokCells t ++ tokRow r:=by simp [tokRow]
  rw [e,List.getElem?_append_right (by simp [tokCells])]
  simpa [tokCells] using hu)
 rw [← this]
 congr 2
 omega
end Go.Proofs.YtagplldaooipmaaGreatDoor
/- expr: the parser's operator. -/
namespace Go.Proofs.YtagplldaooipmaaGreatDoor
open Go.RowKit
end Go.Proofs.YtagplldaooipmaaGreatDoor
/- expr: the parser. -/
namespace Go.Proofs.YtagplldaooipmaaGreatDoor
open Go.RowKit
theorem four {w:World} {h:Nat} {c0 c1 c2 c3:Value} {T:TypeId} (hh:w.heap[h]? = some (.cells #[c0,c1,c2,c3] T (0,0))) :
  (w.cell? ⟨h,0,none⟩=some c0∧w.cell? ⟨h,1,none⟩=some c1∧w.cell? ⟨h,2,none⟩=some c2∧w.cell? ⟨h,3,none⟩=some c3)∧(w.frozen? ⟨h,0,none⟩=false∧w.frozen? ⟨h,1,none⟩=false∧w.frozen? ⟨h,2,none⟩=false∧w.frozen? ⟨h,3,none⟩=false):=
 ⟨⟨cell_of_heap hh,cell_of_heap hh,cell_of_heap hh,cell_of_heap hh⟩,frozen_of_heap hh,frozen_of_heap hh,frozen_of_heap hh,frozen_of_heap hh⟩
theorem heap_last {w:World} {n:Nat} (hn:w.heap.size=n) (o:Obj):(w.alloc o).heap[n]? = some o:=by subst hn;exact heap_alloc_new w o
theorem SubAt.four {w:World} {S S':Nat → Prop} {v:Value} {sub:List Ex} (h:SubAt w S v sub) {k:Nat} (hk:¬ S k) (hS:∀ g,S g → S' g) (u0 u1 u2 u3:Value):SubAt ((((w.setCell ⟨k,0,none⟩ u0).setCell ⟨k,1,none⟩ u1).setCell ⟨k,2,none⟩ u2).setCell ⟨k,3,none⟩ u3) S' v sub:=
 h.keep (fun p hp=>by
  have hne:p.block ≠ k:=fun e=>hk (e ▸ hp)
  rw [setCell_other p hne,setCell_other p hne,setCell_other p hne,setCell_other p hne]) hS
theorem SubAt.grown {w w':World} {S:Nat → Prop} {v:Value} {sub:List Ex} {b:Nat} (h:SubAt w S v sub) (hg:w.grownBy w' (some b)) (hb:¬ S b) (hl:∀ g,S g → g < w.heap.size):SubAt w' S v sub:=
 h.keep (fun p hp=>World.cell?_of_block (hg.block p.block (hl _ hp) (fun e=>hb (by injection e with e;exact e ▸ hp)))) (fun _ h=>h)
end Go.Proofs.YtagplldaooipmaaGreatDoor
/- expr: the parser's atom. -/
namespace Go.Proofs.YtagplldaooipmaaGreatDoor
open Go.RowKit
end Go.Proofs.YtagplldaooipmaaGreatDoor
