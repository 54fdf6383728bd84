/- Xv. -/
import Derived.Test.YtbdnbfacalfciaaGreatDoorXu
import Derived.Test.YtbdnbfacalfciaaGreatDoorWt
import Derived.Test.YtbdnbfacalfciaaGreatDoorXg
import Derived.Test.YtbdnbfacalfciaaGreatDoorXe
import Derived.Test.YtbdnbfacalfciaaGreatDoorXl
namespace Go.Proofs.YtbdnbfacalfciaaGreatDoor
set_option maxRecDepth 100000
set_option maxHeartbeats 4000000
open Go.RowKit
theorem code_mov (n:Nat) (v:Value) (w:World) (hg:GWL w) (hs:ArAt w (· < w.heap.size) v [wordA [66,88],numA n]):Calls Tryz.prog 310 #[.int .i64 1,v] w fun e w'=>e=.returned (.tuple #[.agg #[.int .i64 1,.int .i64 12,.int .i64 20,.int .u16 0],.int .i64 1,.bool true])/\Below w.heap.size w w':=by
 obtain ⟨A,c,rfl,hc,_⟩:=hs.form
 obtain ⟨g,o,sv,rfl,hgl,a0,a1,a2,a3,a4,a5,a6,a7,hsub⟩:=hs.get 0 (by simp)
 obtain ⟨g',o',sv',e1,_,b0,b1,b2,b3,b4,b5,b6,b7,hsub'⟩:=hs.get 1 (by simp)
 injection e1 with e1
 injection e1 with e1 e2
 subst e1 e2
 obtain ⟨sA,sc,rfl,_,_⟩:=hsub.form
 obtain ⟨sA',sc',rfl,_,_⟩:=hsub'.form
 simp only [List.getElem_cons_zero,List.getElem_cons_succ,Nat.zero_mul,Nat.add_zero,Nat.one_mul,wordA,numA,numE,ex0,Ex.op,Ex.n,Ex.name,Ex.sub,List.length_cons,List.length_nil] at *
 have hC:=fun W (hW:GWL W)=>Code9_any [66,88] W hW
 rw [show acodeL [66,88]=(12,true) by decide +kernel] at hC
 have HC:=LH hC
 have HR:=LH (fun W=>right_c 1 12 20 187 2 0 (by simp [InsT]) (by simp) W)
 have HG:=LH hg
 clear hs hsub hsub' hC hg hc
 have O0:=LH ((Below.heap_alloc (w.alloc (.cells #[.int .i64 1,.int .i64 0,.int .i64 0,.int .u16 0] 400)) (.cells #[.int .i64 0,.int .i64 0] 415) w.heap.size (by simp)).trans (heap_alloc_new w _))
 have hP:=heap_alloc_new (w.alloc (.cells #[.int .i64 1,.int .i64 0,.int .i64 0,.int .u16 0] 400)) (.cells #[.int .i64 0,.int .i64 0] 415)
 rw [World.size_alloc] at hP
 have P0:=LH hP
 clear hP
 have B0:=LH (((Below.refl w.heap.size w).alloc (Nat.le_refl _) (.cells #[.int .i64 1,.int .i64 0,.int .i64 0,.int .u16 0] 400)).alloc (by simp) (.cells #[.int .i64 0,.int .i64 0] 415))
 go_enter Tryz.func310, Tryz.ntmps310
 go_wp2_with fail
 refine wp_loop_rounds 3 ?_
 rw [rounds_succ]
 go_wp2_with fail
 refine (HC.out _ (HG.out.below (B0.out.alloc B0.out.size _))).mono ?_
 rintro e w1 ⟨rfl,hb1⟩
 have B1:=LH ((B0.out.alloc B0.out.size _).trans (hb1.mono (by simp;omega)))
 have O1:=LH ((hb1.block w.heap.size (by simp;omega)).trans ((Below.heap_alloc _ _ _ (by simp;omega)).trans O0.out))
 have P1:=LH ((hb1.block (w.heap.size+1) (by first | (simp;done) | (simp;omega))).trans ((Below.heap_alloc _ _ _ (by simp)).trans P0.out))
 clear hb1 O0 P0 B0 HC a0 a1 a2 a3 a4 a5 a6 a7
 have f0:=foh (i:=0) P1.out
 have q0:=coh (i:=0) P1.out
 simp at f0 q0
 go_wp2_with fail
 have O2:=LH ((set_block (w:=w1) (g:=w.heap.size+1) (i:=0) (u:=.int .i64 12) (k:=w.heap.size) (by omega)).trans O1.out)
 have P2:=LH (heap_set (i:=0) (.int .i64 12) P1.out)
 have B2:=LH (B1.out.setCell (p:=⟨w.heap.size+1,0,none⟩) (Nat.le_succ _) (.int .i64 12))
 have b0':=(B2.out.cell (p:=⟨g,o+8,none⟩) hgl).trans b0
 have b1':=(B2.out.cell (p:=⟨g,o+8+1,none⟩) hgl).trans b1
 have b2':=(B2.out.cell (p:=⟨g,o+8+2,none⟩) hgl).trans b2
 have b3':=(B2.out.cell (p:=⟨g,o+8+3,none⟩) hgl).trans b3
 have b4':=(B2.out.cell (p:=⟨g,o+8+4,none⟩) hgl).trans b4
 have b5':=(B2.out.cell (p:=⟨g,o+8+5,none⟩) hgl).trans b5
 have b6':=(B2.out.cell (p:=⟨g,o+8+6,none⟩) hgl).trans b6
 have b7':=(B2.out.cell (p:=⟨g,o+8+7,none⟩) hgl).trans b7
 clear O1 P1 B1 b0 b1 b2 b3 b4 b5 b6 b7 f0 q0
 generalize w1.setCell ⟨w.heap.size+1,0,none⟩ (.int .i64 12)=w2 at *
 simp at P2
 have hz2:=loh P2.out
 have f1:=fun o=>foh (i:=1) ((Below.heap_alloc w2 o (w.heap.size+1) hz2).trans P2.out)
 have q1:=fun o=>coh (i:=1) ((Below.heap_alloc w2 o (w.heap.size+1) hz2).trans P2.out)
 simp at f1 q1
 rw [rounds_succ]
 go_wp2_with fail
 have O3:=LH ((Below.heap_alloc (w2.setCell ⟨w.heap.size+1,1,none⟩ (.int .i64 20)) (.cells #[.string ⟨#[]⟩,.string ⟨#[]⟩,.bool false,.bool false,.string ⟨sNum.toArray⟩,.int .u16 n,.string ⟨#[]⟩,.slice sA' 0 sc'] 72) w.heap.size (by simp;omega)).trans ((set_block (w:=w2) (g:=w.heap.size+1) (i:=1) (u:=.int .i64 20) (k:=w.heap.size) (by omega)).trans O2.out))
 have P3:=LH ((Below.heap_alloc (w2.setCell ⟨w.heap.size+1,1,none⟩ (.int .i64 20)) (.cells #[.string ⟨#[]⟩,.string ⟨#[]⟩,.bool false,.bool false,.string ⟨sNum.toArray⟩,.int .u16 n,.string ⟨#[]⟩,.slice sA' 0 sc'] 72) (w.heap.size+1) (by simp;omega)).trans (heap_set (i:=1) (.int .i64 20) P2.out))
 have B3:=LH ((B2.out.setCell (p:=⟨w.heap.size+1,1,none⟩) (Nat.le_succ _) (.int .i64 20)).alloc (by simp;omega) (.cells #[.string ⟨#[]⟩,.string ⟨#[]⟩,.bool false,.bool false,.string ⟨sNum.toArray⟩,.int .u16 n,.string ⟨#[]⟩,.slice sA' 0 sc'] 72))
 clear O2 P2 B2 f1 q1 b0' b1' b2' b3' b4' b5' b6' b7' hz2
 generalize (w2.setCell ⟨w.heap.size+1,1,none⟩ (.int .i64 20)).alloc (.cells #[.string ⟨#[]⟩,.string ⟨#[]⟩,.bool false,.bool false,.string ⟨sNum.toArray⟩,.int .u16 n,.string ⟨#[]⟩,.slice sA' 0 sc'] 72)=w3 at *
 simp at P3
 have x0:=coh (i:=0) P3.out
 have x1:=coh (i:=1) P3.out
 have y1:=foh (i:=1) O3.out
 have y2:=foh (i:=2) O3.out
 have y3:=coh (i:=1) O3.out
 have y4:=coh (i:=2) O3.out
 simp at x0 x1 y1 y2 y3 y4
 rw [rounds_succ]
 go_wp2_with fail
 go_region
 have O4:=LH (heap_set (w:=w3.setCell ⟨w.heap.size,1,none⟩ (.int .i64 12)) (i:=2) (.int .i64 20) (heap_set (w:=w3) (i:=1) (.int .i64 12) O3.out))
 have B4:=LH (((B3.out.setCell (p:=⟨w.heap.size,1,none⟩) (Nat.le_refl _) (.int .i64 12)).setCell (p:=⟨w.heap.size,2,none⟩) (Nat.le_refl _) (.int .i64 20)).drew)
 have O5:Hid (((w3.setCell ⟨w.heap.size,1,none⟩ (.int .i64 12)).setCell ⟨w.heap.size,2,none⟩ (.int .i64 20)).drew.heap[w.heap.size]? = some (.cells #[.int .i64 1,.int .i64 12,.int .i64 20,.int .u16 0] 400 (0,0))):=O4
 clear O3 P3 B3 x0 x1 y1 y2 y3 y4 O4
 generalize ((w3.setCell ⟨w.heap.size,1,none⟩ (.int .i64 12)).setCell ⟨w.heap.size,2,none⟩ (.int .i64 20)).drew=w4 at *
 have k0:=coh (i:=0) O5.out
 have k1:=coh (i:=1) O5.out
 have k2:=coh (i:=2) O5.out
 have k3:=coh (i:=3) O5.out
 simp at k0 k1 k2 k3
 have g0:=foh (i:=0) O5.out
 have g1:=foh (i:=1) O5.out
 have g2:=foh (i:=2) O5.out
 have g3:=foh (i:=3) O5.out
 simp at g0 g1 g2 g3
 go_wp2_with fail
 go_region_with ((refine (HR.out _).mono ?_);rintro e w5 ⟨rfl,hb5⟩;have O6:=(hb5.block w.heap.size (loh O5.out)).trans O5.out;have k0:=coh (i:=0) O6;have k1:=coh (i:=1) O6;have k2:=coh (i:=2) O6;have k3:=coh (i:=3) O6;have f0:=foh (i:=0) O6;have f1:=foh (i:=1) O6;have f2:=foh (i:=2) O6;have f3:=foh (i:=3) O6;simp at k0 k1 k2 k3 f0 f1 f2 f3)
 all_goals (
  go_wp2_with fail
  refine bodyPost_ret (v:=.tuple #[.agg #[.int .i64 1,.int .i64 12,.int .i64 20,.int .u16 0],.int .i64 1,.bool true]) (by simp [results,Tryz.results310,go_sem,k0,k1,k2,k3]) rfl ?_
  exact ⟨rfl,(((((B4.out.drew).trans (hb5.mono B4.out.size)).setCell (Nat.le_refl _) _).setCell (Nat.le_refl _) _).setCell (Nat.le_refl _) _).setCell (Nat.le_refl _) _⟩)
theorem code_inc (v:Value) (w:World) (hg:GWL w) (hs:ArAt w (· < w.heap.size) v [wordA [66,88]]):Calls Tryz.prog 310 #[.int .i64 10,v] w fun e w'=>e=.returned (.tuple #[.agg #[.int .i64 10,.int .i64 12,.int .i64 0,.int .u16 0],.int .i64 (-1),.bool true])/\Below w.heap.size w w':=by
 obtain ⟨A,c,rfl,hc,_⟩:=hs.form
 obtain ⟨g,o,sv,rfl,hgl,a0,a1,a2,a3,a4,a5,a6,a7,hsub⟩:=hs.get 0 (by simp)
 obtain ⟨sA,sc,rfl,_,_⟩:=hsub.form
 simp only [List.getElem_cons_zero,Nat.zero_mul,Nat.add_zero,wordA,ex0,Ex.op,Ex.n,Ex.name,Ex.sub,List.length_cons,List.length_nil] at *
 have hC:=fun W (hW:GWL W)=>Code9_any [66,88] W hW
 rw [show acodeL [66,88]=(12,true) by decide +kernel] at hC
 have HC:=LH hC
 have HR:=LH (fun W=>right_c 10 12 0 67 0 0 (by simp [InsT]) (by simp) W)
 have HG:=LH hg
 clear hs hsub hC hg hc
 have O0:=LH ((Below.heap_alloc (w.alloc (.cells #[.int .i64 10,.int .i64 0,.int .i64 0,.int .u16 0] 400)) (.cells #[.int .i64 0,.int .i64 0] 415) w.heap.size (by simp)).trans (heap_alloc_new w _))
 have hP:=heap_alloc_new (w.alloc (.cells #[.int .i64 10,.int .i64 0,.int .i64 0,.int .u16 0] 400)) (.cells #[.int .i64 0,.int .i64 0] 415)
 rw [World.size_alloc] at hP
 have P0:=LH hP
 clear hP
 have B0:=LH (((Below.refl w.heap.size w).alloc (Nat.le_refl _) (.cells #[.int .i64 10,.int .i64 0,.int .i64 0,.int .u16 0] 400)).alloc (by simp) (.cells #[.int .i64 0,.int .i64 0] 415))
 go_enter Tryz.func310, Tryz.ntmps310
 go_wp2_with fail
 refine wp_loop_rounds 2 ?_
 rw [rounds_succ]
 go_wp2_with fail
 refine (HC.out _ (HG.out.below (B0.out.alloc B0.out.size _))).mono ?_
 rintro e w1 ⟨rfl,hb1⟩
 have B1:=LH ((B0.out.alloc B0.out.size _).trans (hb1.mono (by simp;omega)))
 have O1:=LH ((hb1.block w.heap.size (by simp;omega)).trans ((Below.heap_alloc _ _ _ (by simp;omega)).trans O0.out))
 have P1:=LH ((hb1.block (w.heap.size+1) (by first | (simp;done) | (simp;omega))).trans ((Below.heap_alloc _ _ _ (by simp)).trans P0.out))
 clear hb1 O0 P0 B0 HC a0 a1 a2 a3 a4 a5 a6 a7
 have f0:=foh (i:=0) P1.out
 have q0:=coh (i:=0) P1.out
 simp at f0 q0
 go_wp2_with fail
 have O2:=LH ((set_block (w:=w1) (g:=w.heap.size+1) (i:=0) (u:=.int .i64 12) (k:=w.heap.size) (by omega)).trans O1.out)
 have P2:=LH (heap_set (i:=0) (.int .i64 12) P1.out)
 have B2:=LH (B1.out.setCell (p:=⟨w.heap.size+1,0,none⟩) (Nat.le_succ _) (.int .i64 12))
 clear O1 P1 B1 f0 q0
 generalize w1.setCell ⟨w.heap.size+1,0,none⟩ (.int .i64 12)=w2 at *
 simp at P2
 have O3:=O2
 have P3:=P2
 have B3:=B2
 clear O2 P2 B2
 have x0:=coh (i:=0) P3.out
 have x1:=coh (i:=1) P3.out
 have y1:=foh (i:=1) O3.out
 have y2:=foh (i:=2) O3.out
 have y3:=coh (i:=1) O3.out
 have y4:=coh (i:=2) O3.out
 simp at x0 x1 y1 y2 y3 y4
 rw [rounds_succ]
 go_wp2_with fail
 go_region
 have O4:=LH (heap_set (w:=w2.setCell ⟨w.heap.size,1,none⟩ (.int .i64 12)) (i:=2) (.int .i64 0) (heap_set (w:=w2) (i:=1) (.int .i64 12) O3.out))
 have B4:=LH (((B3.out.setCell (p:=⟨w.heap.size,1,none⟩) (Nat.le_refl _) (.int .i64 12)).setCell (p:=⟨w.heap.size,2,none⟩) (Nat.le_refl _) (.int .i64 0)).drew)
 have O5:Hid (((w2.setCell ⟨w.heap.size,1,none⟩ (.int .i64 12)).setCell ⟨w.heap.size,2,none⟩ (.int .i64 0)).drew.heap[w.heap.size]? = some (.cells #[.int .i64 10,.int .i64 12,.int .i64 0,.int .u16 0] 400 (0,0))):=O4
 clear O3 P3 B3 x0 x1 y1 y2 y3 y4 O4
 generalize ((w2.setCell ⟨w.heap.size,1,none⟩ (.int .i64 12)).setCell ⟨w.heap.size,2,none⟩ (.int .i64 0)).drew=w4 at *
 have k0:=coh (i:=0) O5.out
 have k1:=coh (i:=1) O5.out
 have k2:=coh (i:=2) O5.out
 have k3:=coh (i:=3) O5.out
 simp at k0 k1 k2 k3
 have g0:=foh (i:=0) O5.out
 have g1:=foh (i:=1) O5.out
 have g2:=foh (i:=2) O5.out
 have g3:=foh (i:=3) O5.out
 simp at g0 g1 g2 g3
 go_wp2_with fail
 go_region_with ((refine (HR.out _).mono ?_);rintro e w5 ⟨rfl,hb5⟩;have O6:=(hb5.block w.heap.size (loh O5.out)).trans O5.out;have k0:=coh (i:=0) O6;have k1:=coh (i:=1) O6;have k2:=coh (i:=2) O6;have k3:=coh (i:=3) O6;have f0:=foh (i:=0) O6;have f1:=foh (i:=1) O6;have f2:=foh (i:=2) O6;have f3:=foh (i:=3) O6;simp at k0 k1 k2 k3 f0 f1 f2 f3)
 all_goals (
  go_wp2_with fail
  refine bodyPost_ret (v:=.tuple #[.agg #[.int .i64 10,.int .i64 12,.int .i64 0,.int .u16 0],.int .i64 (-1),.bool true]) (by simp [results,Tryz.results310,go_sem,k0,k1,k2,k3]) rfl ?_
  exact ⟨rfl,(((((B4.out.drew).trans (hb5.mono B4.out.size)).setCell (Nat.le_refl _) _).setCell (Nat.le_refl _) _).setCell (Nat.le_refl _) _).setCell (Nat.le_refl _) _⟩)
theorem code_one (op:Int) (h:op=20∨op=21∨op=28) (A:Option Addr) (c:Nat) (w:World):Calls Tryz.prog 310 #[.int .i64 op,.slice A 0 c] w fun e w'=>e=.returned (.tuple #[.agg #[.int .i64 op,.int .i64 0,.int .i64 0,.int .u16 0],.int .i64 (-1),.bool true])/\Below w.heap.size w w':=by
 have HR:Hid (∀ W,Calls Tryz.prog 323 #[.agg #[.int .i64 op,.int .i64 0,.int .i64 0,.int .u16 0]] W fun e w'=>e=.returned (.int .i64 0)/\Below W.heap.size W w'):=LH (fun W=>by
  rcases h with rfl | rfl | rfl
  ·exact right_c 20 0 0 159 0 0 (by simp [InsT]) (by simp) W
  ·exact right_c 21 0 0 158 0 0 (by simp [InsT]) (by simp) W
  ·exact right_c 28 0 0 244 0 0 (by simp [InsT]) (by simp) W)
 clear h
 have O0:=LH ((Below.heap_alloc (w.alloc (.cells #[.int .i64 op,.int .i64 0,.int .i64 0,.int .u16 0] 400)) (.cells #[.int .i64 0,.int .i64 0] 415) w.heap.size (by simp)).trans (heap_alloc_new w _))
 have hP:=heap_alloc_new (w.alloc (.cells #[.int .i64 op,.int .i64 0,.int .i64 0,.int .u16 0] 400)) (.cells #[.int .i64 0,.int .i64 0] 415)
 rw [World.size_alloc] at hP
 have P0:=LH hP
 clear hP
 have B0:=LH (((Below.refl w.heap.size w).alloc (Nat.le_refl _) (.cells #[.int .i64 op,.int .i64 0,.int .i64 0,.int .u16 0] 400)).alloc (by simp) (.cells #[.int .i64 0,.int .i64 0] 415))
 go_enter Tryz.func310, Tryz.ntmps310
 go_wp2_with fail
 generalize (w.alloc (.cells #[.int .i64 op,.int .i64 0,.int .i64 0,.int .u16 0] 400)).alloc (.cells #[.int .i64 0,.int .i64 0] 415)=w3 at *
 have O3:=O0
 have P3:=P0
 have B3:=B0
 clear O0 P0 B0
 refine wp_loop_rounds 1 ?_
 have x0:=coh (i:=0) P3.out
 have x1:=coh (i:=1) P3.out
 have y1:=foh (i:=1) O3.out
 have y2:=foh (i:=2) O3.out
 have y3:=coh (i:=1) O3.out
 have y4:=coh (i:=2) O3.out
 simp at x0 x1 y1 y2 y3 y4
 rw [rounds_succ]
 go_wp2_with fail
 go_region
 have O4:=LH (heap_set (w:=w3.setCell ⟨w.heap.size,1,none⟩ (.int .i64 0)) (i:=2) (.int .i64 0) (heap_set (w:=w3) (i:=1) (.int .i64 0) O3.out))
 have B4:=LH (((B3.out.setCell (p:=⟨w.heap.size,1,none⟩) (Nat.le_refl _) (.int .i64 0)).setCell (p:=⟨w.heap.size,2,none⟩) (Nat.le_refl _) (.int .i64 0)).drew)
 have O5:Hid (((w3.setCell ⟨w.heap.size,1,none⟩ (.int .i64 0)).setCell ⟨w.heap.size,2,none⟩ (.int .i64 0)).drew.heap[w.heap.size]? = some (.cells #[.int .i64 op,.int .i64 0,.int .i64 0,.int .u16 0] 400 (0,0))):=O4
 clear O3 P3 B3 x0 x1 y1 y2 y3 y4 O4
 generalize ((w3.setCell ⟨w.heap.size,1,none⟩ (.int .i64 0)).setCell ⟨w.heap.size,2,none⟩ (.int .i64 0)).drew=w4 at *
 have k0:=coh (i:=0) O5.out
 have k1:=coh (i:=1) O5.out
 have k2:=coh (i:=2) O5.out
 have k3:=coh (i:=3) O5.out
 simp at k0 k1 k2 k3
 have g0:=foh (i:=0) O5.out
 have g1:=foh (i:=1) O5.out
 have g2:=foh (i:=2) O5.out
 have g3:=foh (i:=3) O5.out
 simp at g0 g1 g2 g3
 go_wp2_with fail
 go_region_with ((refine (HR.out _).mono ?_);rintro e w5 ⟨rfl,hb5⟩;have O6:=(hb5.block w.heap.size (loh O5.out)).trans O5.out;have k0:=coh (i:=0) O6;have k1:=coh (i:=1) O6;have k2:=coh (i:=2) O6;have k3:=coh (i:=3) O6;have f0:=foh (i:=0) O6;have f1:=foh (i:=1) O6;have f2:=foh (i:=2) O6;have f3:=foh (i:=3) O6;simp at k0 k1 k2 k3 f0 f1 f2 f3)
 all_goals (
  go_wp2_with fail
  refine bodyPost_ret (v:=.tuple #[.agg #[.int .i64 op,.int .i64 0,.int .i64 0,.int .u16 0],.int .i64 (-1),.bool true]) (by simp [results,Tryz.results310,go_sem,k0,k1,k2,k3]) rfl ?_
  exact ⟨rfl,(((((B4.out.drew).trans (hb5.mono B4.out.size)).setCell (Nat.le_refl _) _).setCell (Nat.le_refl _) _).setCell (Nat.le_refl _) _).setCell (Nat.le_refl _) _⟩)
theorem f1c_enter (args:Array Value) (W:World):(callFunc 312 args).run Tryz.prog W=.ok (.enter 312 args) W:=enters_of Tryz.func312 (by kernel_rfl) rfl args W
theorem f1c_none (op d s b:Int) (h:InsT op d s b 0) (pl:Int) (v bi be bs:Nat) (w:World) (hi:w.heap[bi]? = some (.cells (insCells op d s 0) 400 (0,0))) (he:w.cell? ⟨be,0,none⟩=some (.int .i64 (-1))) :
  Calls Tryz.prog 312 #[.int .i64 pl,.int .u16 v,.pointer (some ⟨bi,0,none⟩),.pointer (some ⟨be,0,none⟩),.pointer (some ⟨bs,0,none⟩)] w (BytsR ([byteOf b],v,0) w):=by
 have HJ:=LH (fun W=>jumps_c op d s b 0 0 h W)
 have HB:=LH (fun W=>bytes_c op d s b 0 0 h (fun _=>rfl) (by omega) W)
 rw [show byT b 0 0 = [byteOf b] from if_pos rfl] at HB
 have k0:=coh (i:=0) hi
 have k1:=coh (i:=1) hi
 have k2:=coh (i:=2) hi
 have k3:=coh (i:=3) hi
 simp at k0 k1 k2 k3
 have HI:=LH ((Below.heap_alloc w (.cells #[.int .i64 op,.int .i64 d,.int .i64 s,.int .u16 0] 400) bi (loh hi)).trans hi)
 have he1:=fun o=>new_keep (o:=o) he
 have m0:=fun o=>new_keep (o:=o) k0
 have m1:=fun o=>new_keep (o:=o) k1
 have m2:=fun o=>new_keep (o:=o) k2
 have m3:=fun o=>new_keep (o:=o) k3
 have O1:=LH (heap_alloc_new w (.cells #[.int .i64 op,.int .i64 d,.int .i64 s,.int .u16 0] 400))
 have B1:=LH ((Below.refl w.heap.size w).alloc (Nat.le_refl _) (.cells #[.int .i64 op,.int .i64 d,.int .i64 s,.int .u16 0] 400))
 clear h hi
 go_enter Tryz.func312, Tryz.ntmps312
 go_wp2_with fail
 refine (HJ.out _).mono ?_
 rintro e w2 ⟨rfl,hb2⟩
 have B2:=LH (bthen B1.out hb2)
 have O2:=(hb2.block w.heap.size (by simp)).trans O1.out
 have l0:=coh (i:=0) O2
 have l1:=coh (i:=1) O2
 have l2:=coh (i:=2) O2
 have l3:=coh (i:=3) O2
 simp at l0 l1 l2 l3
 clear hb2 O2 O1 B1 HI k0 k1 k2 k3 m0 m1 m2 m3 he1 HJ
 go_wp2_with fail
 refine (HB.out _).mono ?_
 rintro e w3 hx
 obtain ⟨A,c,rfl,hr,hn,hb3⟩:=hx.form
 have HR:=LH hr
 have HN:=LH hn
 have B3:=LH (bthen B2.out hb3)
 have hz2:=B2.out.size
 clear hr hx hn hb3
 go_wp2_with fail
 go_ret3
 exact ⟨_,rfl,HR.out,fun x hx=>Nat.le_trans hz2 (HN.out x hx),B3.out⟩
theorem f1c_mov (pl:Int) (v bi be bs:Nat) (hv:v<=65535) (w:World) (hi:w.heap[bi]? = some (.cells (insCells 1 12 20 0) 400 (0,0))) (he:w.cell? ⟨be,0,none⟩=some (.int .i64 1)) :
  Calls Tryz.prog 312 #[.int .i64 pl,.int .u16 v,.pointer (some ⟨bi,0,none⟩),.pointer (some ⟨be,0,none⟩),.pointer (some ⟨bs,0,none⟩)] w (BytsR (187 :: lohi v,v,0) w):=by
 have HJ:=LH (fun W=>jumps_c 1 12 20 187 2 0 (by simp [InsT]) W)
 have HNA:=LH (fun W=>narrow_c v W)
 have HB:=LH (fun W=>bytes_c 1 12 20 187 2 v (by simp [InsT]) (by simp) hv W)
 rw [show byT 187 2 v=187 :: lohi v from if_neg (by decide)] at HB
 have k0:=coh (i:=0) hi
 have k1:=coh (i:=1) hi
 have k2:=coh (i:=2) hi
 have k3:=coh (i:=3) hi
 simp at k0 k1 k2 k3
 have HI:=LH ((Below.heap_alloc w (.cells #[.int .i64 1,.int .i64 12,.int .i64 20,.int .u16 0] 400) bi (loh hi)).trans hi)
 have m0:=fun o=>new_keep (o:=o) k0
 have m1:=fun o=>new_keep (o:=o) k1
 have m2:=fun o=>new_keep (o:=o) k2
 have m3:=fun o=>new_keep (o:=o) k3
 have he1:=fun o=>new_keep (o:=o) he
 have O1:=LH (heap_alloc_new w (.cells #[.int .i64 1,.int .i64 12,.int .i64 20,.int .u16 0] 400))
 have B1:=LH ((Below.refl w.heap.size w).alloc (Nat.le_refl _) (.cells #[.int .i64 1,.int .i64 12,.int .i64 20,.int .u16 0] 400))
 have hbi:bi<w.heap.size:=loh hi
 clear hi
 go_enter Tryz.func312, Tryz.ntmps312
 go_wp2_with fail
 refine (HNA.out _).mono ?_
 rintro e w2 ⟨rfl,hb2⟩
 have B2:=LH (bthen B1.out hb2)
 have O2:=LH ((hb2.block w.heap.size (by simp)).trans O1.out)
 have I2:=(hb2.block bi (by simp;omega)).trans HI.out
 have f0:=foh (i:=0) O2.out
 have f1:=foh (i:=1) O2.out
 have f2:=foh (i:=2) O2.out
 have f3:=foh (i:=3) O2.out
 have l0:=coh (i:=0) O2.out
 have l1:=coh (i:=1) O2.out
 have l2:=coh (i:=2) O2.out
 have l3:=coh (i:=3) O2.out
 have i0:=coh (i:=0) I2
 have i1:=coh (i:=1) I2
 have i2:=coh (i:=2) I2
 have i3:=coh (i:=3) I2
 simp at f0 f1 f2 f3 l0 l1 l2 l3 i0 i1 i2 i3
 have hne:bi≠w.heap.size:=by omega
 clear hb2 O1 B1 HI I2 k0 k1 k2 k3 m0 m1 m2 m3 he1 HNA
 go_wp2_with fail
 refine (HJ.out _).mono ?_
 rintro e w4 ⟨rfl,hb4⟩
 have X3:=heap_set (w:=((w2.setCell ⟨w.heap.size,0,none⟩ (.int .i64 1)).setCell ⟨w.heap.size,1,none⟩ (.int .i64 12)).setCell ⟨w.heap.size,2,none⟩ (.int .i64 20)) (i:=3) (.int .u16 v) (heap_set (w:=(w2.setCell ⟨w.heap.size,0,none⟩ (.int .i64 1)).setCell ⟨w.heap.size,1,none⟩ (.int .i64 12)) (i:=2) (.int .i64 20) (heap_set (w:=w2.setCell ⟨w.heap.size,0,none⟩ (.int .i64 1)) (i:=1) (.int .i64 12) (heap_set (w:=w2) (i:=0) (.int .i64 1) O2.out)))
 have X4:=(hb4.block w.heap.size (loh X3)).trans X3
 have B4:=LH (bthen ((((B2.out.setCell (p:=⟨w.heap.size,0,none⟩) (Nat.le_refl _) (.int .i64 1)).setCell (p:=⟨w.heap.size,1,none⟩) (Nat.le_refl _) (.int .i64 12)).setCell (p:=⟨w.heap.size,2,none⟩) (Nat.le_refl _) (.int .i64 20)).setCell (p:=⟨w.heap.size,3,none⟩) (Nat.le_refl _) (.int .u16 v)) hb4)
 clear f0 f1 f2 f3 l0 l1 l2 l3 i0 i1 i2 i3 hb4 X3 B2 O2 HJ
 have l0:=coh (i:=0) X4
 have l1:=coh (i:=1) X4
 have l2:=coh (i:=2) X4
 have l3:=coh (i:=3) X4
 simp at l0 l1 l2 l3
 clear X4
 go_wp2_with fail
 refine (HB.out _).mono ?_
 rintro e w5 hx
 obtain ⟨A,c,rfl,hr,hn,hb5⟩:=hx.form
 have HR:=LH hr
 have HN:=LH hn
 have B5:=LH (bthen B4.out hb5)
 have hz4:=B4.out.size
 clear hr hx hn hb5
 go_wp2_with fail
 go_ret3
 exact ⟨_,rfl,HR.out,fun x hx=>Nat.le_trans hz4 (HN.out x hx),B5.out⟩
def noXJ (op:List UInt8):Prop:=Lib.trimPrefix op [88,74]=op/\Lib.hasPrefix op [88,74]=false
theorem find_gen (b:Nat) (s:St) (v:Value) (i:Int) (w:World) (hg:GWL w) (hs:ArAt w (· < w.heap.size) v s.args) (hop:noXJ s.op) (o d so bb t:Int) (hins:InsT o d so bb t) (hol:opL s.op=(o,true)) (cd:Cd) (hsz:(t=0/\cd.size=1)∨(t=2/\cd.size=3))
  (hcode:∀ W,Below w.heap.size w W->Calls Tryz.prog 310 #[.int .i64 o,v] W fun e w'=>e=.returned (.tuple #[.agg #[.int .i64 o,.int .i64 d,.int .i64 so,.int .u16 0],.int .i64 (eI cd.e),.bool true])/\Below W.heap.size W w')
  (hby:∀ (W:World) (pl:Int) (v bi be bs:Nat),v<=65535->W.heap[bi]? = some (.cells (insCells o d so 0) 400 (0,0))->W.cell? ⟨be,0,none⟩=some (.int .i64 (eI cd.e))->Calls Tryz.prog 312 #[.int .i64 pl,.int .u16 v,.pointer (some ⟨bi,0,none⟩),.pointer (some ⟨be,0,none⟩),.pointer (some ⟨bs,0,none⟩)] W (BytsR (cd.bytes pl.toNat v ([],false)).1 W)) :
  Calls Tryz.prog 307 #[.pointer (some ⟨b,0,none⟩),stV s v,.int .i64 i] w (FindR (some cd) w):=by
 obtain ⟨A,c,rfl,hc,_⟩:=hs.form
 have HCP:=LH (fun W=>Tryz.strings_CutPrefix ⟨s.op.toArray⟩ ⟨#[88,74]⟩ W)
 have HOP:=LH (fun W (hW:GWL W)=>Op9_any s.op W hW)
 rw [hol] at HOP
 simp only [hop.1,hop.2] at HCP
 have HSZ:=LH (fun W=>size_c o d so bb t (cd.size:Nat) hins (by omega) W)
 have HCO:=LH hcode
 have HBY:=LH hby
 have HG:=LH hg
 obtain ⟨lab,colon,op,args⟩:=s
 unfold stV
 simp only at *
 clear hs hop hins hol hsz hcode hby hg
 have O0:=LH ((Below.heap_alloc (w.alloc (.cells #[.string ⟨lab.toArray⟩,.bool colon,.string ⟨op.toArray⟩,.slice A args.length c] 63)) (.cells #[.int .i64 0,.int .i64 0,.nilFunc] 288) w.heap.size (by simp)).trans (heap_alloc_new w _))
 have hP:=heap_alloc_new (w.alloc (.cells #[.string ⟨lab.toArray⟩,.bool colon,.string ⟨op.toArray⟩,.slice A args.length c] 63)) (.cells #[.int .i64 0,.int .i64 0,.nilFunc] 288)
 rw [World.size_alloc] at hP
 have P0:=LH hP
 clear hP
 have B0:=LH (((Below.refl w.heap.size w).alloc (Nat.le_refl _) (.cells #[.string ⟨lab.toArray⟩,.bool colon,.string ⟨op.toArray⟩,.slice A args.length c] 63)).alloc (by simp) (.cells #[.int .i64 0,.int .i64 0,.nilFunc] 288))
 go_enter Tryz.func307, Tryz.ntmps307
 go_wp2_with fail
 refine (HCP.out _).mono ?_
 rintro e w1 ⟨rfl,rfl⟩
 go_wp2_with fail
 refine (HOP.out _ (HG.out.below B0.out)).mono ?_
 rintro e w2 ⟨rfl,hb2⟩
 have B2:=LH (B0.out.trans (hb2.mono (by simp;omega)))
 have O2:=LH ((hb2.block w.heap.size (by simp;omega)).trans O0.out)
 have P2:=LH ((hb2.block (w.heap.size+1) (by simp)).trans P0.out)
 have x3:=coh (i:=3) O2.out
 simp at x3
 clear hb2 O0 P0 B0 HOP HCP
 go_wp2_with fail
 refine (HCO.out _ B2.out).mono ?_
 rintro e w3 ⟨rfl,hb3⟩
 have B3:=LH (bthen B2.out hb3)
 have P3:=LH ((hb3.block _ (loh P2.out)).trans P2.out)
 clear hb3 O2 P2 B2 HCO x3
 go_wp2_with fail
 have I4:=LH ((Below.heap_alloc (w3.alloc (.cells #[.int .i64 o,.int .i64 d,.int .i64 so,.int .u16 0] 400)) (.cells #[.int .i64 (eI cd.e)] 3) w3.heap.size (by simp)).trans (heap_alloc_new w3 _))
 have hE:=heap_alloc_new (w3.alloc (.cells #[.int .i64 o,.int .i64 d,.int .i64 so,.int .u16 0] 400)) (.cells #[.int .i64 (eI cd.e)] 3)
 rw [World.size_alloc] at hE
 have E4:=LH hE
 have B4:=LH ((B3.out.alloc B3.out.size (.cells #[.int .i64 o,.int .i64 d,.int .i64 so,.int .u16 0] 400)).alloc (by have:=B3.out.size;simp;omega) (.cells #[.int .i64 (eI cd.e)] 3))
 have P4:=LH ((Below.heap_alloc (w3.alloc (.cells #[.int .i64 o,.int .i64 d,.int .i64 so,.int .u16 0] 400)) (.cells #[.int .i64 (eI cd.e)] 3) (w.heap.size+1) (by have:=loh P3.out;simp;omega)).trans ((Below.heap_alloc w3 _ _ (loh P3.out)).trans P3.out))
 have hw3:w.heap.size+1<w3.heap.size:=loh P3.out
 clear hE P3 B3
 generalize (w3.alloc (.cells #[.int .i64 o,.int .i64 d,.int .i64 so,.int .u16 0] 400)).alloc (.cells #[.int .i64 (eI cd.e)] 3)=w4 at *
 generalize w3.heap.size=K at *
 refine (HSZ.out _).mono ?_
 rintro e w5 ⟨rfl,hb5⟩
 have hz4:K+1<w4.heap.size:=loh E4.out
 have hz5:w4.heap.size<=w5.heap.size:=hb5.size
 have BX:=LH ((bthen B4.out hb5).alloc (bthen B4.out hb5).size (.cells #[.int .i64 (cd.size:Nat)] 3))
 have I6:=LH ((Below.heap_alloc w5 (.cells #[.int .i64 (cd.size:Nat)] 3) K (by omega)).trans ((hb5.block K (by omega)).trans I4.out))
 have E6:=LH ((Below.heap_alloc w5 (.cells #[.int .i64 (cd.size:Nat)] 3) (K+1) (by omega)).trans ((hb5.block (K+1) hz4).trans E4.out))
 have P6:=LH ((Below.heap_alloc w5 (.cells #[.int .i64 (cd.size:Nat)] 3) (w.heap.size+1) (by omega)).trans ((hb5.block (w.heap.size+1) (by omega)).trans P4.out))
 have e5:=(hb5.block (K+1) hz4).trans E4.out
 have ks:=coh (i:=0) E6.out
 have ks2:=coh (i:=0) e5
 simp at ks ks2
 clear hb5 I4 E4 P4 B4 HSZ e5
 obtain ⟨m0,m1,m2,f0,f1,f2⟩:=three_of P6.out
 obtain ⟨q0,q1,q2⟩:=three_set (.int .i64 (cd.size:Nat)) (.int .i64 (eI cd.e)) (.func (.func 312) #[] #[.pointer (some ⟨K,0,none⟩),.pointer (some ⟨K+1,0,none⟩),.pointer (some ⟨w5.heap.size,0,none⟩)]) P6.out
 have Q:=LH (And.intro q0 (And.intro q1 q2))
 have B5:=LH (((BX.out.setCell (p:=⟨w.heap.size+1,0,none⟩) (Nat.le_succ _) (.int .i64 (cd.size:Nat))).setCell (p:=⟨w.heap.size+1,1,none⟩) (Nat.le_succ _) (.int .i64 (eI cd.e))).setCell (p:=⟨w.heap.size+1,2,none⟩) (Nat.le_succ _) (.func (.func 312) #[] #[.pointer (some ⟨K,0,none⟩),.pointer (some ⟨K+1,0,none⟩),.pointer (some ⟨w5.heap.size,0,none⟩)]))
 clear q0 q1 q2
 go_wp2_with fail
 obtain ⟨q0,q1,q2⟩:=Q.out
 refine bodyPost_ret (v:=.tuple #[.agg #[.int .i64 (cd.size:Nat),.int .i64 (eI cd.e),.func (.func 312) #[] #[.pointer (some ⟨K,0,none⟩),.pointer (some ⟨K+1,0,none⟩),.pointer (some ⟨w5.heap.size,0,none⟩)]],.bool true]) (by simp [results,Tryz.results307,go_sem,q0,q1,q2]) rfl ?_
 refine ⟨B5.out,_,rfl,⟨_,_,_,rfl,.inr ⟨_,_,rfl⟩⟩,fun cd' hc=>?_⟩
 injection hc with hc
 rw [← hc]
 refine ⟨312,_,rfl,f1c_enter,fun W pl v hW hsz hv=>?_⟩
 have a1:=(hW K (by omega) (by simp;omega)).trans ((keep3 _ _ _ _ _ (by omega)).trans I6.out)
 have a2:W.cell? ⟨K+1,0,none⟩=some (.int .i64 (eI cd.e)):=coh ((hW (K+1) (by omega) (by simp;omega)).trans ((keep3 _ _ _ _ _ (by omega)).trans E6.out))
 exact HBY.out W (pl:Nat) v K (K+1) w5.heap.size hv a1 a2
theorem find86_no (b:Nat) (s:St) (v:Value) (i:Int) (w:World) (hg:GWL w) (hs:ArAt w (· < w.heap.size) v s.args) (hop:noXJ s.op) (hol:opL s.op=(0,false)) :
  Calls Tryz.prog 307 #[.pointer (some ⟨b,0,none⟩),stV s v,.int .i64 i] w (FindR none w):=by
 obtain ⟨A,c,rfl,hc,_⟩:=hs.form
 have HCP:=LH (fun W=>Tryz.strings_CutPrefix ⟨s.op.toArray⟩ ⟨#[88,74]⟩ W)
 have HOP:=LH (fun W (hW:GWL W)=>Op9_any s.op W hW)
 rw [hol] at HOP
 simp only [hop.1,hop.2] at HCP
 have HG:=LH hg
 obtain ⟨lab,colon,op,args⟩:=s
 unfold stV
 simp only at *
 clear hs hop hol hg
 have hP:=heap_alloc_new (w.alloc (.cells #[.string ⟨lab.toArray⟩,.bool colon,.string ⟨op.toArray⟩,.slice A args.length c] 63)) (.cells #[.int .i64 0,.int .i64 0,.nilFunc] 288)
 rw [World.size_alloc] at hP
 have P0:=LH hP
 clear hP
 have B0:=LH (((Below.refl w.heap.size w).alloc (Nat.le_refl _) (.cells #[.string ⟨lab.toArray⟩,.bool colon,.string ⟨op.toArray⟩,.slice A args.length c] 63)).alloc (by simp) (.cells #[.int .i64 0,.int .i64 0,.nilFunc] 288))
 go_enter Tryz.func307, Tryz.ntmps307
 go_wp2_with fail
 refine (HCP.out _).mono ?_
 rintro e w1 ⟨rfl,rfl⟩
 go_wp2_with fail
 refine (HOP.out _ (HG.out.below B0.out)).mono ?_
 rintro e w2 ⟨rfl,hb2⟩
 have B2:=LH (B0.out.trans (hb2.mono (by simp;omega)))
 have P2:=LH ((hb2.block (w.heap.size+1) (by simp)).trans P0.out)
 clear hb2 P0 B0 HOP HCP
 obtain ⟨m0,m1,m2,f0,f1,f2⟩:=three_of P2.out
 obtain ⟨q0,q1,q2⟩:=three_set (.int .i64 0) (.int .i64 0) .nilFunc P2.out
 have Q:=LH (And.intro q0 (And.intro q1 q2))
 clear q0 q1 q2
 go_wp2_with fail
 obtain ⟨q0,q1,q2⟩:=Q.out
 refine bodyPost_ret (v:=.tuple #[.agg #[.int .i64 0,.int .i64 0,.nilFunc],.bool false]) (by simp [results,Tryz.results307,go_sem,q0,q1,q2]) rfl ?_
 exact ⟨((B2.out.setCell (p:=⟨w.heap.size+1,0,none⟩) (Nat.le_succ _) _).setCell (p:=⟨w.heap.size+1,1,none⟩) (Nat.le_succ _) _).setCell (p:=⟨w.heap.size+1,2,none⟩) (Nat.le_succ _) _,_,rfl,⟨_,_,_,rfl,.inl rfl⟩,fun cd hc=>by cases hc⟩
theorem noXJ_of (op:List UInt8) (h:Lib.trimPrefix op [88,74]=op/\Lib.hasPrefix op [88,74]=false):noXJ op:=h
theorem fdC_fine:FdOk fdC:=⟨fun _ _ _=>rfl,fun {s c} h=>by
 have hc:∀ b:List UInt8,b.length<=1->some (cdC b)=some c->CdOk c s:=fun b hb h=>by
  injection h with h
  subst h
  exact ⟨by show b.length<=1000;omega,fun k hk=>(by cases hk),fun pl v t=>⟨rfl,by show b.length<=1000;omega⟩⟩
 unfold fdC at h
 split at h
 ·exact hc _ (by simp) h
 ·split at h
  ·exact hc _ (by simp) h
  ·split at h
   ·exact hc _ (by simp) h
   ·split at h
    ·exact hc _ (by simp) h
    ·split at h
     ·next h1=>
      injection h with h
      subst h
      exact ⟨by show 3<=1000;omega,fun k hk=>(by injection hk with hk;omega),fun pl v t=>⟨rfl,by show 3<=1000;omega⟩⟩
     ·cases h⟩
theorem find86 (x:St) (hx:InsC x) (b B:Nat) (w0 w:World) (hg:GWL w0) (hb:Below w0.heap.size w0 w) (hB:w0.heap.size<=B):FindB true b fdC x B w:=by
 intro W v i hW ha
 have hG:GWL W:=hg.below (hb.trans (hW.mono hB))
 show Calls Tryz.prog 307 #[.pointer (some ⟨b,0,none⟩),stV x v,.int .i64 i] W (FindR (fdC ([],false) x 0) W)
 obtain ⟨lab,colon,op,args⟩:=x
 unfold InsC at hx
 simp only at hx ha
 rcases hx with ⟨rfl,hop⟩ | ⟨rfl,rfl⟩ | ⟨rfl,n,hn,rfl⟩ | rfl
 ·obtain ⟨A,c,rfl,_,_⟩:=ha.form
  rcases hop with rfl | rfl | rfl
  ·rw [show fdC ([],false) ⟨lab,colon,sLAHF,[]⟩ 0=some (cdC [159]) by unfold fdC;rw [if_pos rfl]]
   exact find_gen b _ _ i W hG ha (noXJ_of sLAHF (by decide)) 20 0 0 159 0 (by simp [InsT]) (show opL sLAHF=(20,true) by decide +kernel) _ (.inl ⟨rfl,rfl⟩) (fun W2 _=>code_one 20 (by omega) A c W2) (fun W2 pl v bi be bs _ h1 h2=>f1c_none 20 0 0 159 (by simp [InsT]) pl v bi be bs W2 h1 h2)
  ·rw [show fdC ([],false) ⟨lab,colon,sSAHF,[]⟩ 0=some (cdC [158]) by unfold fdC;rw [if_neg (show ¬ sSAHF=sLAHF by decide),if_pos rfl]]
   exact find_gen b _ _ i W hG ha (noXJ_of sSAHF (by decide)) 21 0 0 158 0 (by simp [InsT]) (show opL sSAHF=(21,true) by decide +kernel) _ (.inl ⟨rfl,rfl⟩) (fun W2 _=>code_one 21 (by omega) A c W2) (fun W2 pl v bi be bs _ h1 h2=>f1c_none 21 0 0 158 (by simp [InsT]) pl v bi be bs W2 h1 h2)
  ·rw [show fdC ([],false) ⟨lab,colon,sHLT,[]⟩ 0=some (cdC [244]) by unfold fdC;rw [if_neg (show ¬ sHLT=sLAHF by decide),if_neg (show ¬ sHLT=sSAHF by decide),if_pos rfl]]
   exact find_gen b _ _ i W hG ha (noXJ_of sHLT (by decide)) 28 0 0 244 0 (by simp [InsT]) (show opL sHLT=(28,true) by decide +kernel) _ (.inl ⟨rfl,rfl⟩) (fun W2 _=>code_one 28 (by omega) A c W2) (fun W2 pl v bi be bs _ h1 h2=>f1c_none 28 0 0 244 (by simp [InsT]) pl v bi be bs W2 h1 h2)
 ·rw [show fdC ([],false) ⟨lab,colon,sINC,[wordA sBX]⟩ 0=some (cdC [67]) by unfold fdC;rw [if_neg (show ¬ sINC=sLAHF by decide),if_neg (show ¬ sINC=sSAHF by decide),if_neg (show ¬ sINC=sHLT by decide),if_pos rfl]]
  exact find_gen b _ _ i W hG ha (noXJ_of sINC (by decide)) 10 12 0 67 0 (by simp [InsT]) (show opL sINC=(10,true) by decide +kernel) _ (.inl ⟨rfl,rfl⟩) (fun W2 h2=>code_inc v W2 (hG.below h2) (ha.at h2 h2.size)) (fun W2 pl v bi be bs _ h1 h2=>f1c_none 10 12 0 67 (by simp [InsT]) pl v bi be bs W2 h1 h2)
 ·rw [show fdC ([],false) ⟨lab,colon,sMOV,[wordA sBX,numA n]⟩ 0=some cdM by unfold fdC;rw [if_neg (show ¬ sMOV=sLAHF by decide),if_neg (show ¬ sMOV=sSAHF by decide),if_neg (show ¬ sMOV=sHLT by decide),if_neg (show ¬ sMOV=sINC by decide),if_pos ⟨rfl,rfl⟩]]
  exact find_gen b _ _ i W hG ha (noXJ_of sMOV (by decide)) 1 12 20 187 2 (by simp [InsT]) (show opL sMOV=(1,true) by decide +kernel) _ (.inr ⟨rfl,rfl⟩) (fun W2 h2=>code_mov n v W2 (hG.below h2) (ha.at h2 h2.size)) (fun W2 pl v bi be bs hv h1 h2=>f1c_mov pl v bi be bs hv W2 h1 h2)
 ·rw [show fdC ([],false) ⟨lab,colon,sEND,args⟩ 0=none by unfold fdC;rw [if_neg (show ¬ sEND=sLAHF by decide),if_neg (show ¬ sEND=sSAHF by decide),if_neg (show ¬ sEND=sHLT by decide),if_neg (show ¬ sEND=sINC by decide),if_neg (fun h=>absurd h.1 (show ¬ sEND=sMOV by decide))]]
  exact find86_no b _ v i W hG ha (noXJ_of sEND (by decide)) (show opL sEND=(0,false) by decide +kernel)
end Go.Proofs.YtbdnbfacalfciaaGreatDoor
