/- Uf. -/
import Derived.Test.YtagplldaooipmaaGreatDoorUa
import Derived.Test.YtagplldaooipmaaGreatDoorLs
import Derived.Test.YtagplldaooipmaaGreatDoorUb
import Derived.Laws.OwnMore
import Derived.Test.YtagplldaooipmaaGreatDoorUc
import Derived.RegionTactic
import Derived.Deep.RegionHeld3
import Derived.Deep.QuietTactic
import Derived.BigQuiet
import Derived.Lib.SlBytesConst
import Derived.Handy
namespace Go.Proofs.YtagplldaooipmaaGreatDoor
open Go.RowKit
abbrev nilV:Value:=.slice none 0 0
def rowA (l:List Ar):List Value:=l.flatMap (fun a=>arCells a nilV)
theorem rowA_snoc (l:List Ar) (a:Ar):rowA (l ++ [a])=rowA l ++ arCells a nilV:=by simp [rowA]
theorem rowA_len (l:List Ar):(rowA l).length=l.length * 8:=by
 induction l with
 | nil=>rfl
 | cons a l ih=>simp only [rowA,List.flatMap_cons,List.length_append,List.length_cons] at ih ⊢;rw [ih];simp [arCells];omega
theorem dnumber_any (n:Nat) (w:World):Calls Tryz.prog 37 #[.int .u16 n] w fun e w'=>e=.returned (.agg #[.string ⟨#[35]⟩,.int .u16 n,.string ⟨#[]⟩,nilV])∧Below w.heap.size w w':=by
 go_enter Tryz.func37, Tryz.ntmps37
 go_wp2_with fail
 exact bodyPost_ret (v:=.agg #[.string ⟨#[35]⟩,.int .u16 n,.string ⟨#[]⟩,nilV]) (by simp [results,Tryz.results37,go_sem]) rfl ⟨rfl,(Below.refl _ _).alloc (Nat.le_refl _) _⟩
theorem dstmt_any (op:List UInt8) (v:Value) (w:World) (hv:∃ A n c,v=.slice A n c):Calls Tryz.prog 14 #[.string ⟨op.toArray⟩,v] w fun e w'=>e=.returned (.agg #[.string ⟨#[]⟩,.bool false,.string ⟨op.toArray⟩,v])∧Below w.heap.size w w':=by
 obtain ⟨A,n,c,rfl⟩:=hv
 go_enter Tryz.func14, Tryz.ntmps14
 go_wp2_with fail
 exact bodyPost_ret (v:=.agg #[.string ⟨#[]⟩,.bool false,.string ⟨op.toArray⟩,.slice A n c]) (by simp [results,Tryz.results14,go_sem]) rfl ⟨rfl,(Below.refl _ _).alloc (Nat.le_refl _) _⟩
set_option maxHeartbeats 4000000 in
theorem doperand_num (s:List UInt8) (n:Nat) (w:World) (h:s=sD8 ∨ s=sD16 ∨ s=sn1 ∨ s=sn2):Calls Tryz.prog 15 #[.string ⟨s.toArray⟩,.int .u16 n] w fun e w'=>e=.returned (arV (numA n) nilV)∧Below w.heap.size w w':=by
 have HN:=Lib.hid (fun W=>dnumber_any n W)
 rcases h with rfl | rfl | rfl | rfl
 ·go_enter Tryz.func15, Tryz.ntmps15
  go_wp2_with fail
  refine (HN.out _).mono ?_
  rintro e w1 ⟨rfl,hb⟩
  have B1:=Lib.hid (bthen ((Below.refl _ _).alloc (Nat.le_refl _) _) hb)
  have C1:=Lib.hid ((hb.block w.heap.size (by simp)).trans (heap_alloc_new w _))
  clear hb HN
  have k0:=cell_of_heap (i:=0) C1.out
  have f0:=frozen_of_heap (i:=0) C1.out
  have k1:=cell_of_heap (i:=1) C1.out
  have f1:=frozen_of_heap (i:=1) C1.out
  have k2:=cell_of_heap (i:=2) C1.out
  have f2:=frozen_of_heap (i:=2) C1.out
  have k3:=cell_of_heap (i:=3) C1.out
  have f3:=frozen_of_heap (i:=3) C1.out
  have k4:=cell_of_heap (i:=4) C1.out
  have f4:=frozen_of_heap (i:=4) C1.out
  have k5:=cell_of_heap (i:=5) C1.out
  have f5:=frozen_of_heap (i:=5) C1.out
  have k6:=cell_of_heap (i:=6) C1.out
  have f6:=frozen_of_heap (i:=6) C1.out
  have k7:=cell_of_heap (i:=7) C1.out
  have f7:=frozen_of_heap (i:=7) C1.out
  simp at k0 k1 k2 k3 k4 k5 k6 k7 f0 f1 f2 f3 f4 f5 f6 f7
  go_wp2_with fail
  exact bodyPost_ret (v:=.agg #[.string ⟨#[]⟩,.string ⟨#[]⟩,.bool false,.bool false,.string ⟨#[35]⟩,.int .u16 n,.string ⟨#[]⟩,nilV]) (by simp [results,Tryz.results15,go_sem,k0,k1,k2,k3,k4,k5,k6,k7]) rfl ⟨rfl,((((((((B1.out.setCell (by simp) _).setCell (by simp) _).setCell (by simp) _).setCell (by simp) _).setCell (by simp) _).setCell (by simp) _).setCell (by simp) _).setCell (by simp) _)⟩
 ·go_enter Tryz.func15, Tryz.ntmps15
  go_wp2_with fail
  refine (HN.out _).mono ?_
  rintro e w1 ⟨rfl,hb⟩
  have B1:=Lib.hid (bthen ((Below.refl _ _).alloc (Nat.le_refl _) _) hb)
  have C1:=Lib.hid ((hb.block w.heap.size (by simp)).trans (heap_alloc_new w _))
  clear hb HN
  have k0:=cell_of_heap (i:=0) C1.out
  have f0:=frozen_of_heap (i:=0) C1.out
  have k1:=cell_of_heap (i:=1) C1.out
  have f1:=frozen_of_heap (i:=1) C1.out
  have k2:=cell_of_heap (i:=2) C1.out
  have f2:=frozen_of_heap (i:=2) C1.out
  have k3:=cell_of_heap (i:=3) C1.out
  have f3:=frozen_of_heap (i:=3) C1.out
  have k4:=cell_of_heap (i:=4) C1.out
  have f4:=frozen_of_heap (i:=4) C1.out
  have k5:=cell_of_heap (i:=5) C1.out
  have f5:=frozen_of_heap (i:=5) C1.out
  have k6:=cell_of_heap (i:=6) C1.out
  have f6:=frozen_of_heap (i:=6) C1.out
  have k7:=cell_of_heap (i:=7) C1.out
  have f7:=frozen_of_heap (i:=7) C1.out
  simp at k0 k1 k2 k3 k4 k5 k6 k7 f0 f1 f2 f3 f4 f5 f6 f7
  go_wp2_with fail
  exact bodyPost_ret (v:=.agg #[.string ⟨#[]⟩,.string ⟨#[]⟩,.bool false,.bool false,.string ⟨#[35]⟩,.int .u16 n,.string ⟨#[]⟩,nilV]) (by simp [results,Tryz.results15,go_sem,k0,k1,k2,k3,k4,k5,k6,k7]) rfl ⟨rfl,((((((((B1.out.setCell (by simp) _).setCell (by simp) _).setCell (by simp) _).setCell (by simp) _).setCell (by simp) _).setCell (by simp) _).setCell (by simp) _).setCell (by simp) _)⟩
 ·go_enter Tryz.func15, Tryz.ntmps15
  go_wp2_with fail
  refine (HN.out _).mono ?_
  rintro e w1 ⟨rfl,hb⟩
  have B1:=Lib.hid (bthen ((Below.refl _ _).alloc (Nat.le_refl _) _) hb)
  have C1:=Lib.hid ((hb.block w.heap.size (by simp)).trans (heap_alloc_new w _))
  clear hb HN
  have k0:=cell_of_heap (i:=0) C1.out
  have f0:=frozen_of_heap (i:=0) C1.out
  have k1:=cell_of_heap (i:=1) C1.out
  have f1:=frozen_of_heap (i:=1) C1.out
  have k2:=cell_of_heap (i:=2) C1.out
  have f2:=frozen_of_heap (i:=2) C1.out
  have k3:=cell_of_heap (i:=3) C1.out
  have f3:=frozen_of_heap (i:=3) C1.out
  have k4:=cell_of_heap (i:=4) C1.out
  have f4:=frozen_of_heap (i:=4) C1.out
  have k5:=cell_of_heap (i:=5) C1.out
  have f5:=frozen_of_heap (i:=5) C1.out
  have k6:=cell_of_heap (i:=6) C1.out
  have f6:=frozen_of_heap (i:=6) C1.out
  have k7:=cell_of_heap (i:=7) C1.out
  have f7:=frozen_of_heap (i:=7) C1.out
  simp at k0 k1 k2 k3 k4 k5 k6 k7 f0 f1 f2 f3 f4 f5 f6 f7
  go_wp2_with fail
  exact bodyPost_ret (v:=.agg #[.string ⟨#[]⟩,.string ⟨#[]⟩,.bool false,.bool false,.string ⟨#[35]⟩,.int .u16 n,.string ⟨#[]⟩,nilV]) (by simp [results,Tryz.results15,go_sem,k0,k1,k2,k3,k4,k5,k6,k7]) rfl ⟨rfl,((((((((B1.out.setCell (by simp) _).setCell (by simp) _).setCell (by simp) _).setCell (by simp) _).setCell (by simp) _).setCell (by simp) _).setCell (by simp) _).setCell (by simp) _)⟩
 ·go_enter Tryz.func15, Tryz.ntmps15
  go_wp2_with fail
  refine (HN.out _).mono ?_
  rintro e w1 ⟨rfl,hb⟩
  have B1:=Lib.hid (bthen ((Below.refl _ _).alloc (Nat.le_refl _) _) hb)
  have C1:=Lib.hid ((hb.block w.heap.size (by simp)).trans (heap_alloc_new w _))
  clear hb HN
  have k0:=cell_of_heap (i:=0) C1.out
  have f0:=frozen_of_heap (i:=0) C1.out
  have k1:=cell_of_heap (i:=1) C1.out
  have f1:=frozen_of_heap (i:=1) C1.out
  have k2:=cell_of_heap (i:=2) C1.out
  have f2:=frozen_of_heap (i:=2) C1.out
  have k3:=cell_of_heap (i:=3) C1.out
  have f3:=frozen_of_heap (i:=3) C1.out
  have k4:=cell_of_heap (i:=4) C1.out
  have f4:=frozen_of_heap (i:=4) C1.out
  have k5:=cell_of_heap (i:=5) C1.out
  have f5:=frozen_of_heap (i:=5) C1.out
  have k6:=cell_of_heap (i:=6) C1.out
  have f6:=frozen_of_heap (i:=6) C1.out
  have k7:=cell_of_heap (i:=7) C1.out
  have f7:=frozen_of_heap (i:=7) C1.out
  simp at k0 k1 k2 k3 k4 k5 k6 k7 f0 f1 f2 f3 f4 f5 f6 f7
  go_wp2_with fail
  exact bodyPost_ret (v:=.agg #[.string ⟨#[]⟩,.string ⟨#[]⟩,.bool false,.bool false,.string ⟨#[35]⟩,.int .u16 n,.string ⟨#[]⟩,nilV]) (by simp [results,Tryz.results15,go_sem,k0,k1,k2,k3,k4,k5,k6,k7]) rfl ⟨rfl,((((((((B1.out.setCell (by simp) _).setCell (by simp) _).setCell (by simp) _).setCell (by simp) _).setCell (by simp) _).setCell (by simp) _).setCell (by simp) _).setCell (by simp) _)⟩
set_option maxHeartbeats 4000000 in
theorem doperand_mem (s:List UInt8) (n:Nat) (w:World) (h:s=smn1 ∨ s=smn2):Calls Tryz.prog 15 #[.string ⟨s.toArray⟩,.int .u16 n] w fun e w'=>e=.returned (arV (memA n) nilV)∧Below w.heap.size w w':=by
 have HN:=Lib.hid (fun W=>dnumber_any n W)
 rcases h with rfl | rfl
 ·go_enter Tryz.func15, Tryz.ntmps15
  go_wp2_with fail
  refine (HN.out _).mono ?_
  rintro e w1 ⟨rfl,hb⟩
  have B1:=Lib.hid (bthen ((Below.refl _ _).alloc (Nat.le_refl _) _) hb)
  have C1:=Lib.hid ((hb.block w.heap.size (by simp)).trans (heap_alloc_new w _))
  clear hb HN
  have k0:=cell_of_heap (i:=0) C1.out
  have f0:=frozen_of_heap (i:=0) C1.out
  have k1:=cell_of_heap (i:=1) C1.out
  have f1:=frozen_of_heap (i:=1) C1.out
  have k2:=cell_of_heap (i:=2) C1.out
  have f2:=frozen_of_heap (i:=2) C1.out
  have k3:=cell_of_heap (i:=3) C1.out
  have f3:=frozen_of_heap (i:=3) C1.out
  have k4:=cell_of_heap (i:=4) C1.out
  have f4:=frozen_of_heap (i:=4) C1.out
  have k5:=cell_of_heap (i:=5) C1.out
  have f5:=frozen_of_heap (i:=5) C1.out
  have k6:=cell_of_heap (i:=6) C1.out
  have f6:=frozen_of_heap (i:=6) C1.out
  have k7:=cell_of_heap (i:=7) C1.out
  have f7:=frozen_of_heap (i:=7) C1.out
  simp at k0 k1 k2 k3 k4 k5 k6 k7 f0 f1 f2 f3 f4 f5 f6 f7
  go_wp2_with fail
  exact bodyPost_ret (v:=.agg #[.string ⟨#[]⟩,.string ⟨#[]⟩,.bool false,.bool true,.string ⟨#[35]⟩,.int .u16 n,.string ⟨#[]⟩,nilV]) (by simp [results,Tryz.results15,go_sem,k0,k1,k2,k3,k4,k5,k6,k7]) rfl ⟨rfl,((((((((B1.out.setCell (by simp) _).setCell (by simp) _).setCell (by simp) _).setCell (by simp) _).setCell (by simp) _).setCell (by simp) _).setCell (by simp) _).setCell (by simp) _)⟩
 ·go_enter Tryz.func15, Tryz.ntmps15
  go_wp2_with fail
  refine (HN.out _).mono ?_
  rintro e w1 ⟨rfl,hb⟩
  have B1:=Lib.hid (bthen ((Below.refl _ _).alloc (Nat.le_refl _) _) hb)
  have C1:=Lib.hid ((hb.block w.heap.size (by simp)).trans (heap_alloc_new w _))
  clear hb HN
  have k0:=cell_of_heap (i:=0) C1.out
  have f0:=frozen_of_heap (i:=0) C1.out
  have k1:=cell_of_heap (i:=1) C1.out
  have f1:=frozen_of_heap (i:=1) C1.out
  have k2:=cell_of_heap (i:=2) C1.out
  have f2:=frozen_of_heap (i:=2) C1.out
  have k3:=cell_of_heap (i:=3) C1.out
  have f3:=frozen_of_heap (i:=3) C1.out
  have k4:=cell_of_heap (i:=4) C1.out
  have f4:=frozen_of_heap (i:=4) C1.out
  have k5:=cell_of_heap (i:=5) C1.out
  have f5:=frozen_of_heap (i:=5) C1.out
  have k6:=cell_of_heap (i:=6) C1.out
  have f6:=frozen_of_heap (i:=6) C1.out
  have k7:=cell_of_heap (i:=7) C1.out
  have f7:=frozen_of_heap (i:=7) C1.out
  simp at k0 k1 k2 k3 k4 k5 k6 k7 f0 f1 f2 f3 f4 f5 f6 f7
  go_wp2_with fail
  exact bodyPost_ret (v:=.agg #[.string ⟨#[]⟩,.string ⟨#[]⟩,.bool false,.bool true,.string ⟨#[35]⟩,.int .u16 n,.string ⟨#[]⟩,nilV]) (by simp [results,Tryz.results15,go_sem,k0,k1,k2,k3,k4,k5,k6,k7]) rfl ⟨rfl,((((((((B1.out.setCell (by simp) _).setCell (by simp) _).setCell (by simp) _).setCell (by simp) _).setCell (by simp) _).setCell (by simp) _).setCell (by simp) _).setCell (by simp) _)⟩
set_option maxHeartbeats 4000000 in
theorem doperand_any (s:List UInt8) (n:Nat) (w:World):Calls Tryz.prog 15 #[.string ⟨s.toArray⟩,.int .u16 n] w fun e w'=>e=.returned (arV (operandD s n) nilV)∧Below w.heap.size w w':=by
 unfold operandD
 by_cases h1:s=sD8 ∨ s=sD16 ∨ s=sn1 ∨ s=sn2
 ·rw [if_pos h1];exact doperand_num s n w h1
 rw [if_neg h1]
 by_cases h2:s=smn1 ∨ s=smn2
 ·rw [if_pos h2];exact doperand_mem s n w h2
 rw [if_neg h2]
 simp only [not_or] at h1 h2
 obtain ⟨a1,a2,a3,a4⟩:=h1
 obtain ⟨a5,a6⟩:=h2
 have e1:=str_ne a1
 have e2:=str_ne a2
 have e3:=str_ne a3
 have e4:=str_ne a4
 have e5:=str_ne a5
 have e6:=str_ne a6
 clear a1 a2 a3 a4 a5 a6
 go_enter Tryz.func15, Tryz.ntmps15
 go_wp2_with fail
 exact bodyPost_ret (v:=.agg #[.string ⟨s.toArray⟩,.string ⟨#[]⟩,.bool false,.bool false,.string ⟨#[]⟩,.int .u16 0,.string ⟨#[]⟩,nilV]) (by simp [results,Tryz.results15,go_sem]) rfl ⟨rfl,(Below.refl _ _).alloc (Nat.le_refl _) _⟩
theorem rowA_new (w:World) (a:Ar):(w.alloc (.cells (arCells a nilV).toArray 41)).ownsRow w.heap.size 41 8 (.slice (some ⟨w.heap.size,0,none⟩) 1 1) 1 (rowA [a]):=by
 have h:=World.ownsRow_lit (base:=w.heap.size) (e:=41) (size:=8) w (arCells a nilV).toArray 1 (Nat.le_refl _) (by unfold maxLen;omega) rfl
 simpa [rowA] using h
end Go.Proofs.YtagplldaooipmaaGreatDoor
/- disasm: db, first80. -/
namespace Go.Proofs.YtagplldaooipmaaGreatDoor
open Go.RowKit
def StR (w:World) (s:St) (size:Nat) (tg:Int) (e:Ending) (w':World):Prop:=∃ v,e=.returned (.tuple #[.agg #[.string ⟨s.label.toArray⟩,.bool s.colon,.string ⟨s.op.toArray⟩,v],.int .i64 size,.int .i64 tg])∧w'.ownsRow w.heap.size 41 8 v s.args.length (rowA s.args)∧Below w.heap.size w w'
theorem own_more {w:World} {base base' size n:Nat} {e:TypeId} {v:Value} {xs:List Value} (h:w.ownsRow base e size v n xs) (hb:base' ≤ base):w.ownsRow base' e size v n xs:=
 ⟨h.1,h.2.imp id fun ⟨g,cap,cur,h1,h2,h3⟩=>⟨g,cap,cur,h1,Nat.le_trans hb h2,h3⟩⟩
theorem own_below {w w':World} {base size n:Nat} {e:TypeId} {v:Value} {xs:List Value} (h:w.ownsRow base e size v n xs) (hb:Below w.heap.size w w'):w'.ownsRow base e size v n xs:=
 ⟨h.1,h.2.imp id fun ⟨g,cap,cur,h1,h2,h3,h4⟩=>⟨g,cap,cur,h1,h2,(hb.block g (lt_of_heap h3)).trans h3,h4⟩⟩
theorem own_set {w:World} {base size n b i:Nat} {e:TypeId} {v u:Value} {xs:List Value} (h:w.ownsRow base e size v n xs) (hb:b < base):(w.setCell ⟨b,i,none⟩ u).ownsRow base e size v n xs:=
 ⟨h.1,h.2.imp id fun ⟨g,cap,cur,h1,h2,h3,h4⟩=>⟨g,cap,cur,h1,h2,(Below.heap_setCell w ⟨b,i,none⟩ u g (by simp;omega)).trans h3,h4⟩⟩
def FirstR (w w0:World) (T:Nat) (ar:List (List UInt8)) (n:Nat) (nm:List UInt8) (k:Nat) (wr:World):Prop:=∃ v,wr.heap[T]? = some (.cells #[.string ⟨#[]⟩,.bool false,.string ⟨nm.toArray⟩,v] 31 (0,0))∧wr.ownsRow w0.heap.size 41 8 v k (rowA ((ar.take k).map fun a=>operandD a n))∧But w0.heap.size T w0 wr∧Below w.heap.size w wr
theorem But.drew {N B:Nat} {w w1:World} (h:But N B w w1):But N B w w1.drew:=h
set_option maxHeartbeats 4000000 in
theorem ddb_any (n:Nat) (hn:n < 256) (w:World):Calls Tryz.prog 62 #[.int .u8 n] w (StR w (dbD n).1 1 (-1)):=by
 have HO:=Lib.hid (fun W=>doperand_num sn1 n W (by simp))
 have HS:=Lib.hid (fun g W=>dstmt_any sDB (.slice (some ⟨g,0,none⟩) 1 1) W ⟨_,_,_,rfl⟩)
 go_enter Tryz.func62, Tryz.ntmps62
 go_wp2_with fail
 refine (HO.out _).mono ?_
 rintro e w1 ⟨rfl,hb1⟩
 have B1:=Lib.hid (bthen ((Below.refl _ _).alloc (Nat.le_refl _) _) hb1)
 have C1:=Lib.hid ((hb1.block w.heap.size (by simp)).trans (heap_alloc_new w _))
 have R1:=Lib.hid (rowA_new w1 (numA n))
 have Z1:=Lib.hid (lt_of_heap C1.out)
 clear hb1 HO
 go_wp2_with fail
 refine (HS.out _ _).mono ?_
 rintro e w2 ⟨rfl,hb2⟩
 have B2:=Lib.hid (bthen (B1.out.alloc B1.out.size _) hb2)
 have C2:=Lib.hid ((hb2.block w.heap.size (by simp;have:=Z1.out;omega)).trans ((Below.heap_alloc w1 _ w.heap.size Z1.out).trans C1.out))
 have R2:=Lib.hid (own_below R1.out hb2)
 have Z2:=Z1.out
 clear hb2 HS C1 R1
 have k0:=cell_of_heap (i:=0) C2.out
 have f0:=frozen_of_heap (i:=0) C2.out
 have k1:=cell_of_heap (i:=1) C2.out
 have f1:=frozen_of_heap (i:=1) C2.out
 have k2:=cell_of_heap (i:=2) C2.out
 have f2:=frozen_of_heap (i:=2) C2.out
 have k3:=cell_of_heap (i:=3) C2.out
 have f3:=frozen_of_heap (i:=3) C2.out
 simp at k0 k1 k2 k3 f0 f1 f2 f3
 go_wp2_with fail
 refine bodyPost_ret (v:=.tuple #[.agg #[.string ⟨#[]⟩,.bool false,.string ⟨#[68,66]⟩,.slice (some ⟨w1.heap.size,0,none⟩) 1 1],.int .i64 1,.int .i64 (-1)]) (by simp [results,Tryz.results62,go_sem,k0,k1,k2,k3]) rfl ⟨_,rfl,?_,((((B2.out.setCell (by simp) _).setCell (by simp) _).setCell (by simp) _).setCell (by simp) _)⟩
 exact own_more (own_set (own_set (own_set (own_set R2.out (by omega)) (by omega)) (by omega)) (by omega)) (by omega)
end Go.Proofs.YtagplldaooipmaaGreatDoor
/- disasm: label. -/
namespace Go.Proofs.YtagplldaooipmaaGreatDoor
open Go.RowKit
theorem i64_and15 (n:Int):bits .and .i64 n 15=n % 16:=by
 have h15:(BitVec.ofInt 64 15).toNat=2 ^ 4 - 1:=by decide
 have key:(BitVec.ofInt 64 n &&& BitVec.ofInt 64 15).toNat=(n % ((2 ^ 64:Nat):Int)).toNat % 2 ^ 4:=by
  rw [BitVec.toNat_and,BitVec.toNat_ofInt,h15,Nat.and_two_pow_sub_one_eq_mod]
 show IntKind.i64.wrap ((BitVec.ofInt 64 n &&& BitVec.ofInt 64 15).toNat:Nat)=n % 16
 rw [key,IntKind.wrap_i64]
 omega
abbrev hexDigits:List UInt8:=[48,49,50,51,52,53,54,55,56,57,65,66,67,68,69,70]
theorem hex_at (k:Nat) (p:k % 16 < hexDigits.length):hexDigits[k % 16]'p=hexL k:=by
 have h:∀ j:Fin 16,hexDigits[j.val]=UInt8.ofNat (if j.val % 16 < 10 then 48 + j.val % 16 else 55 + j.val % 16):=by decide
 have:=h ⟨k % 16,Nat.mod_lt _ (by decide)⟩
 simp only [Nat.mod_mod] at this
 exact this
set_option maxHeartbeats 4000000 in
set_option maxRecDepth 100000 in
theorem dlabel_any (n:Nat) (_h:n < 65536) (w:World):Calls Tryz.prog 16 #[.int .i64 n] w fun e w'=>e=.returned (.string ⟨(labelD n).toArray⟩)∧Below w.heap.size w w':=by
 have kc:=fun (w:World) (C:Array Value) (n c:Nat)=>Lib.run_convert_bytes_const (P:=Tryz.prog) w 22 5 C n c Tryz.underlying22 Tryz.underlying5
 have m1:=i64_and15 (n:Int)
 have m2:=i64_and15 ((n:Int) / 16)
 have m3:=i64_and15 ((n:Int) / 16 / 16)
 have m4:=i64_and15 ((n:Int) / 16 / 16 / 16)
 have hd1:=hex_at n
 have hd2:=hex_at (n / 16)
 have hd3:=hex_at (n / 16 / 16)
 have hd4:=hex_at (n / 16 / 16 / 16)
 have HL:Hid (labelD n = [76,hexL (n / 16 / 16 / 16),hexL (n / 16 / 16),hexL (n / 16),hexL n]):=Lib.hid (by unfold labelD;simp only [Nat.div_div_eq_div_mul])
 generalize labelD n=res at *
 generalize hexL n=x0 at *
 generalize hexL (n / 16)=x1 at *
 generalize hexL (n / 16 / 16)=x2 at *
 generalize hexL (n / 16 / 16 / 16)=x3 at *
 go_enter Tryz.func16, Tryz.ntmps16
 go_wp2_with fail
 clear kc
 have B1:=Lib.hid ((Below.refl w.heap.size w).alloc (Nat.le_refl _) (.cells #[.int .u8 76,.int .u8 48,.int .u8 48,.int .u8 48,.int .u8 48] 5 (5,6)))
 have C1:=Lib.hid (heap_alloc_new w (.cells #[.int .u8 76,.int .u8 48,.int .u8 48,.int .u8 48,.int .u8 48] 5 (5,6)))
 generalize w.alloc (.cells #[.int .u8 76,.int .u8 48,.int .u8 48,.int .u8 48,.int .u8 48] 5 (5,6))=w1 at *
 have k1:=cell_of_heap (i:=1) C1.out
 have k2:=cell_of_heap (i:=2) C1.out
 have k3:=cell_of_heap (i:=3) C1.out
 have k4:=cell_of_heap (i:=4) C1.out
 have f1:=frozen_of_heap (i:=1) C1.out
 have f2:=frozen_of_heap (i:=2) C1.out
 have f3:=frozen_of_heap (i:=3) C1.out
 have f4:=frozen_of_heap (i:=4) C1.out
 simp at k1 k2 k3 k4 f1 f2 f3 f4
 refine wp_loop_rounds 5 ?_
 rw [rounds_succ]
 go_wp2_with fail
 rw [rounds_succ]
 go_wp2_with fail
 rw [rounds_succ]
 go_wp2_with fail
 rw [rounds_succ]
 go_wp2_with fail
 rw [rounds_succ]
 go_wp2_with fail
 have C5:=heap_set (i:=1) (bv x3) (heap_set (i:=2) (bv x2) (heap_set (i:=3) (bv x1) (heap_set (i:=4) (bv x0) C1.out)))
 have hcv:=conv_block (P:=Tryz.prog) _ 22 9 5 w.heap.size 5 5 [76,x3,x2,x1,x0] [] (5,6) Tryz.underlying22 Tryz.underlying5 Tryz.underlying9 rfl C5
 unfold bv at hcv
 rw [hcv]
 simp only [Result.andThen]
 rw [Oper.upon_value]
 have B5:=Lib.hid ((((B1.out.setCell (p:=⟨w.heap.size,4,none⟩) (Nat.le_refl _) (.int .u8 (x0.toNat:Int))).setCell (p:=⟨w.heap.size,3,none⟩) (Nat.le_refl _) (.int .u8 (x1.toNat:Int))).setCell (p:=⟨w.heap.size,2,none⟩) (Nat.le_refl _) (.int .u8 (x2.toNat:Int))).setCell (p:=⟨w.heap.size,1,none⟩) (Nat.le_refl _) (.int .u8 (x3.toNat:Int)))
 clear C5 hcv
 go_wp2_with fail
 go_ret
 obtain rfl:=HL.out
 exact ⟨rfl,B5.out⟩
end Go.Proofs.YtagplldaooipmaaGreatDoor
