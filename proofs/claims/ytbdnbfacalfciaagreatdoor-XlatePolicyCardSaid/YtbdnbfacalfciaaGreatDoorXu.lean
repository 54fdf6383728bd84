/- Xu. -/
import Derived.Test.YtbdnbfacalfciaaGreatDoorKa
import Derived.RegionTactic
import Derived.Deep.QuietTactic
import Derived.BigQuiet
import Derived.Test.YtbdnbfacalfciaaGreatDoorXg
import Derived.Test.YtbdnbfacalfciaaGreatDoorXd
import Derived.Test.YtbdnbfacalfciaaGreatDoorXa
namespace Go.Proofs.YtbdnbfacalfciaaGreatDoor
set_option maxRecDepth 100000
set_option maxHeartbeats 2000000
open Go.RowKit
def InsT (op d s b t:Int):Prop:=(op=20/\d=0/\s=0/\b=159/\t=0)∨(op=21/\d=0/\s=0/\b=158/\t=0)∨(op=28/\d=0/\s=0/\b=244/\t=0)∨(op=10/\d=12/\s=0/\b=67/\t=0)∨(op=1/\d=12/\s=20/\b=187/\t=2)
def HeadO (b t:Int) (w:World) (e:Ending) (w':World):Prop:=∃ g,e=.returned (.agg #[.slice (some ⟨g,0,none⟩) 1 1,.int .i64 t])/\w'.heap[g]? = some (.cells #[.int .u8 b] 5 (0,0))/\w.heap.size<=g/\Below w.heap.size w w'
theorem wide12_c (w:World):Calls Tryz.prog 332 #[.int .i64 12] w fun e w'=>e=.returned (.int .i64 16)/\w=w':=by
 go_enter Tryz.func332, Tryz.ntmps332
 go_wp2_with fail
 go_ret
 exact ⟨rfl,rfl⟩
theorem wide20_c (w:World):Calls Tryz.prog 332 #[.int .i64 20] w fun e w'=>e=.returned (.int .i64 0)/\w=w':=by
 go_enter Tryz.func332, Tryz.ntmps332
 go_wp2_with fail
 go_ret
 exact ⟨rfl,rfl⟩
theorem num12_c (w:World):Calls Tryz.prog 334 #[.int .i64 12] w fun e w'=>e=.returned (.int .u8 3)/\w=w':=by
 go_enter Tryz.func334, Tryz.ntmps334
 go_wp2_with fail
 go_ret
 exact ⟨rfl,rfl⟩
def BoxO (w w':World):Prop:=w'.cell? ⟨w.heap.size,0,none⟩=some (.slice none 0 0)/\w'.cell? ⟨w.heap.size,1,none⟩=some (.int .i64 0)/\w'.frozen? ⟨w.heap.size,0,none⟩=false/\w'.frozen? ⟨w.heap.size,1,none⟩=false
theorem boxO_of {w w':World} (h:w'.heap[w.heap.size]? = some (.cells #[.slice none 0 0,.int .i64 0] 418 (0,0))):BoxO w w':=
 ⟨coh h,coh h,foh h,foh h⟩
theorem of_c (t b:Int) (w:World):Calls Tryz.prog 331 #[.int .i64 t,.slice (some ⟨w.heap.size+1,0,none⟩) 1 1] ((w.alloc (.cells #[.slice none 0 0,.int .i64 0] 418)).alloc (.cells #[.int .u8 b] 5)) fun e w'=>
  e=.returned (.agg #[.slice (some ⟨w.heap.size+1,0,none⟩) 1 1,.int .i64 t])/\Hid (w'.heap[w.heap.size+1]? = some (.cells #[.int .u8 b] 5 (0,0)))/\Hid (Below w.heap.size w w')/\w'.cell? ⟨w.heap.size,0,none⟩=some (.slice none 0 0)/\w'.cell? ⟨w.heap.size,1,none⟩=some (.int .i64 0)/\w'.frozen? ⟨w.heap.size,0,none⟩=false/\w'.frozen? ⟨w.heap.size,1,none⟩=false:=by
 have h0:=(Below.heap_alloc (w.alloc (.cells #[.slice none 0 0,.int .i64 0] 418)) (.cells #[.int .u8 b] 5) w.heap.size (by simp)).trans (heap_alloc_new w _)
 have h1:=heap_alloc_new (w.alloc (.cells #[.slice none 0 0,.int .i64 0] 418)) (.cells #[.int .u8 b] 5)
 rw [World.size_alloc] at h1
 have hB:=((Below.refl w.heap.size w).alloc (Nat.le_refl _) (.cells #[.slice none 0 0,.int .i64 0] 418)).alloc (by simp) (.cells #[.int .u8 b] 5)
 have hz:((w.alloc (.cells #[.slice none 0 0,.int .i64 0] 418)).alloc (.cells #[.int .u8 b] 5)).heap.size=w.heap.size+2:=by simp
 have H0:=LH h0
 have H1:=LH h1
 have HB:=LH hB
 have HZ:=LH hz
 clear h0 h1 hB hz
 generalize (w.alloc (.cells #[.slice none 0 0,.int .i64 0] 418)).alloc (.cells #[.int .u8 b] 5)=W at *
 go_enter Tryz.func331, Tryz.ntmps331
 go_wp2_with fail
 refine bodyPost_ret (v:=.agg #[.slice (some ⟨w.heap.size+1,0,none⟩) 1 1,.int .i64 t]) (by simp [results,Tryz.results331,go_sem]) rfl ?_
 have hb:Below W.heap.size W (W.alloc (.cells #[.slice (some ⟨w.heap.size+1,0,none⟩) 1 1,.int .i64 t] 418)):=(Below.refl _ _).alloc (Nat.le_refl _) _
 have h2:=HZ.out
 obtain ⟨b0,b1,b2,b3⟩:=boxO_of ((hb.block w.heap.size (by omega)).trans H0.out)
 exact ⟨rfl,LH ((hb.block (w.heap.size+1) (by omega)).trans H1.out),LH (bthen HB.out hb),b0,b1,b2,b3⟩
theorem HeadO.inbox {f:FuncId} {args:Array Value} {b t:Int} {w:World} (hc:Calls Tryz.prog f args (w.alloc (.cells #[.slice none 0 0,.int .i64 0] 418)) (HeadO b t (w.alloc (.cells #[.slice none 0 0,.int .i64 0] 418)))) :
  Calls Tryz.prog f args (w.alloc (.cells #[.slice none 0 0,.int .i64 0] 418)) fun e w'=>∃ g,e=.returned (.agg #[.slice (some ⟨g,0,none⟩) 1 1,.int .i64 t])/\Hid (w'.heap[g]? = some (.cells #[.int .u8 b] 5 (0,0)))/\Hid (w.heap.size+1<=g)/\Hid (Below w.heap.size w w') /\
   w'.cell? ⟨w.heap.size,0,none⟩=some (.slice none 0 0)/\w'.cell? ⟨w.heap.size,1,none⟩=some (.int .i64 0)/\w'.frozen? ⟨w.heap.size,0,none⟩=false/\w'.frozen? ⟨w.heap.size,1,none⟩=false:=by
 refine hc.mono ?_
 rintro e w1 ⟨g,rfl,h1,h2,hb1⟩
 obtain ⟨b0,b1,b2,b3⟩:=boxO_of ((hb1.block w.heap.size (by simp)).trans (heap_alloc_new w _))
 exact ⟨g,rfl,LH h1,LH (by simpa using h2),LH (bthen ((Below.refl w.heap.size w).alloc (Nat.le_refl _) _) hb1),b0,b1,b2,b3⟩
theorem HeadO.boxed {w w1:World} {b t:Int} {g:Nat} (h1:Hid (w1.heap[g]? = some (.cells #[.int .u8 b] 5 (0,0)))) (h2:w.heap.size<g) (hb:Hid (Below w.heap.size w w1)) (x y:Value) :
  HeadO b t w (.returned (.agg #[.slice (some ⟨g,0,none⟩) 1 1,.int .i64 t])) ((w1.setCell ⟨w.heap.size,0,none⟩ x).setCell ⟨w.heap.size,1,none⟩ y):=
 ⟨g,rfl,(Below.heap_setCell _ _ _ g (by show g≠w.heap.size;omega)).trans ((Below.heap_setCell _ _ _ g (by show g≠w.heap.size;omega)).trans h1.out),by omega,(hb.out.setCell (Nat.le_refl _) _).setCell (Nat.le_refl _) _⟩
theorem one_c (w:World):Calls Tryz.prog 330 #[.int .i64 10,.int .i64 12] w (HeadO 67 0 w):=by
 have e1:bits .or .u8 64 3=67:=by decide +kernel
 have e2:bits .or .u8 64 0=64:=by decide +kernel
 go_enter Tryz.func330, Tryz.ntmps330
 go_wp2_with (first | ((with_reducible refine (wide12_c _).mono ?_);rintro e w' ⟨rfl,rfl⟩) | ((with_reducible refine (num12_c _).mono ?_);rintro e w' ⟨rfl,rfl⟩) | ((with_reducible refine (of_c _ _ _).mono ?_);rintro e w1 ⟨rfl,H1,B1,c0,c1,f0,f1⟩))
 exact bodyPost_ret (v:=.agg #[.slice (some ⟨w.heap.size+1,0,none⟩) 1 1,.int .i64 0]) (by simp [results,Tryz.results330,go_sem,c0,c1]) rfl (HeadO.boxed H1 (by omega) B1 _ _)
theorem places_c (w:World):Calls Tryz.prog 335 #[.int .i64 12,.int .i64 20] w (HeadO 187 2 w):=by
 have e1:bits .or .u8 184 3=187:=by decide +kernel
 go_enter Tryz.func335, Tryz.ntmps335
 go_wp2_with (first | ((with_reducible refine (wide12_c _).mono ?_);rintro e w' ⟨rfl,rfl⟩) | ((with_reducible refine (wide20_c _).mono ?_);rintro e w' ⟨rfl,rfl⟩) | ((with_reducible refine (num12_c _).mono ?_);rintro e w' ⟨rfl,rfl⟩) | ((with_reducible refine (of_c _ _ _).mono ?_);rintro e w1 ⟨rfl,H1,B1,c0,c1,f0,f1⟩))
 exact bodyPost_ret (v:=.agg #[.slice (some ⟨w.heap.size+1,0,none⟩) 1 1,.int .i64 2]) (by simp [results,Tryz.results335,go_sem,c0,c1]) rfl (HeadO.boxed H1 (by omega) B1 _ _)
theorem two_c (w:World):Calls Tryz.prog 329 #[.int .i64 1,.int .i64 12,.int .i64 20] w (HeadO 187 2 w):=by
 have HP:=LH (HeadO.inbox (w:=w) (places_c _))
 go_enter Tryz.func329, Tryz.ntmps329
 go_wp2_with (first | ((with_reducible refine (wide12_c _).mono ?_);rintro e w' ⟨rfl,rfl⟩) | ((with_reducible refine (wide20_c _).mono ?_);rintro e w' ⟨rfl,rfl⟩) | ((with_reducible refine HP.out.mono ?_);rintro e w1 ⟨g,rfl,H1,G1,B1,c0,c1,f0,f1⟩))
 exact bodyPost_ret (v:=.agg #[.slice (some ⟨g,0,none⟩) 1 1,.int .i64 2]) (by simp [results,Tryz.results329,go_sem,c0,c1]) rfl (HeadO.boxed H1 (by have:=G1.out;omega) B1 _ _)
theorem heads_c (op d s b t:Int) (h:InsT op d s b t) (w:World):Calls Tryz.prog 324 #[.int .i64 op,.int .i64 d,.int .i64 s] w (HeadO b t w):=by
 have H2:=LH (HeadO.inbox (w:=w) (two_c _))
 have HO:=LH (HeadO.inbox (w:=w) (one_c _))
 rcases h with ⟨rfl,rfl,rfl,rfl,rfl⟩ | ⟨rfl,rfl,rfl,rfl,rfl⟩ | ⟨rfl,rfl,rfl,rfl,rfl⟩ | ⟨rfl,rfl,rfl,rfl,rfl⟩ | ⟨rfl,rfl,rfl,rfl,rfl⟩
 ·go_enter Tryz.func324, Tryz.ntmps324
  go_wp2_with ((with_reducible refine (of_c _ _ _).mono ?_);rintro e w1 ⟨rfl,H1,B1,c0,c1,f0,f1⟩)
  exact bodyPost_ret (v:=.agg #[.slice (some ⟨w.heap.size+1,0,none⟩) 1 1,.int .i64 0]) (by simp [results,Tryz.results324,go_sem,c0,c1]) rfl (HeadO.boxed H1 (by omega) B1 _ _)
 ·go_enter Tryz.func324, Tryz.ntmps324
  go_wp2_with ((with_reducible refine (of_c _ _ _).mono ?_);rintro e w1 ⟨rfl,H1,B1,c0,c1,f0,f1⟩)
  exact bodyPost_ret (v:=.agg #[.slice (some ⟨w.heap.size+1,0,none⟩) 1 1,.int .i64 0]) (by simp [results,Tryz.results324,go_sem,c0,c1]) rfl (HeadO.boxed H1 (by omega) B1 _ _)
 ·go_enter Tryz.func324, Tryz.ntmps324
  go_wp2_with ((with_reducible refine (of_c _ _ _).mono ?_);rintro e w1 ⟨rfl,H1,B1,c0,c1,f0,f1⟩)
  exact bodyPost_ret (v:=.agg #[.slice (some ⟨w.heap.size+1,0,none⟩) 1 1,.int .i64 0]) (by simp [results,Tryz.results324,go_sem,c0,c1]) rfl (HeadO.boxed H1 (by omega) B1 _ _)
 ·go_enter Tryz.func324, Tryz.ntmps324
  go_wp2_with ((with_reducible refine HO.out.mono ?_);rintro e w1 ⟨g,rfl,H1,G1,B1,c0,c1,f0,f1⟩)
  exact bodyPost_ret (v:=.agg #[.slice (some ⟨g,0,none⟩) 1 1,.int .i64 0]) (by simp [results,Tryz.results324,go_sem,c0,c1]) rfl (HeadO.boxed H1 (by have:=G1.out;omega) B1 _ _)
 ·go_enter Tryz.func324, Tryz.ntmps324
  go_wp2_with ((with_reducible refine H2.out.mono ?_);rintro e w1 ⟨g,rfl,H1,G1,B1,c0,c1,f0,f1⟩)
  exact bodyPost_ret (v:=.agg #[.slice (some ⟨g,0,none⟩) 1 1,.int .i64 2]) (by simp [results,Tryz.results324,go_sem,c0,c1]) rfl (HeadO.boxed H1 (by have:=G1.out;omega) B1 _ _)
abbrev insCells (op d s n:Int):Array Value:=#[.int .i64 op,.int .i64 d,.int .i64 s,.int .u16 n]
theorem InsT.tail {op d s b t:Int} (h:InsT op d s b t):(t=0∨t=2)/\0<=b/\b<=255:=by unfold InsT at h;omega
theorem right_c (op d s b t n:Int) (h:InsT op d s b t) (hn:t=0->n=0) (w:World):Calls Tryz.prog 323 #[.agg #[.int .i64 op,.int .i64 d,.int .i64 s,.int .u16 n]] w fun e w'=>e=.returned (.int .i64 0)/\Below w.heap.size w w':=by
 have HH:=LH (fun W=>heads_c op d s b t h W)
 obtain ⟨ht,_,_⟩:=h.tail
 have B1:=LH ((Below.refl w.heap.size w).alloc (Nat.le_refl _) (.cells #[.int .i64 op,.int .i64 d,.int .i64 s,.int .u16 n] 400))
 have O1:=LH (heap_alloc_new w (.cells #[.int .i64 op,.int .i64 d,.int .i64 s,.int .u16 n] 400))
 clear h
 rcases ht with rfl | rfl
 ·obtain rfl:=hn rfl
  clear hn
  go_enter Tryz.func323, Tryz.ntmps323
  go_wp2_with fail
  refine (HH.out _).mono ?_
  rintro e w1 ⟨g,rfl,h1,h2,hb1⟩
  have k3:=coh (i:=3) ((hb1.block w.heap.size (by simp)).trans O1.out)
  simp at k3
  have k3a:=fun o=>new_keep (o:=o) k3
  have B2:=LH (bthen B1.out hb1)
  clear h1 h2 hb1 HH k3
  go_wp2_with fail
  go_ret
  exact ⟨rfl,B2.out.alloc B2.out.size _⟩
 ·clear hn
  go_enter Tryz.func323, Tryz.ntmps323
  go_wp2_with fail
  refine (HH.out _).mono ?_
  rintro e w1 ⟨g,rfl,h1,h2,hb1⟩
  have B2:=LH (bthen B1.out hb1)
  clear h1 h2 hb1 HH
  go_wp2_with fail
  go_ret
  exact ⟨rfl,B2.out.alloc B2.out.size _⟩
theorem hsize_c (A:Option Addr) (c:Nat) (t k:Int) (h:(t=0/\k=1)∨(t=2/\k=3)) (w:World):Calls Tryz.prog 325 #[.agg #[.slice A 1 c,.int .i64 t]] w fun e w'=>e=.returned (.int .i64 k)/\Below w.heap.size w w':=by
 rcases h with ⟨rfl,rfl⟩ | ⟨rfl,rfl⟩
 ·go_enter Tryz.func325, Tryz.ntmps325
  go_wp2_with fail
  go_ret
  exact ⟨rfl,(Below.refl _ _).alloc (Nat.le_refl _) _⟩
 ·go_enter Tryz.func325, Tryz.ntmps325
  go_wp2_with fail
  go_ret
  exact ⟨rfl,(Below.refl _ _).alloc (Nat.le_refl _) _⟩
theorem jumps_c (op d s b t n:Int) (h:InsT op d s b t) (w:World):Calls Tryz.prog 314 #[.agg #[.int .i64 op,.int .i64 d,.int .i64 s,.int .u16 n]] w fun e w'=>e=.returned (.bool false)/\Below w.heap.size w w':=by
 rcases h with ⟨rfl,rfl,rfl,rfl,rfl⟩ | ⟨rfl,rfl,rfl,rfl,rfl⟩ | ⟨rfl,rfl,rfl,rfl,rfl⟩ | ⟨rfl,rfl,rfl,rfl,rfl⟩ | ⟨rfl,rfl,rfl,rfl,rfl⟩
 all_goals (
  go_enter Tryz.func314, Tryz.ntmps314
  go_wp2_with fail
  go_ret
  exact ⟨rfl,(Below.refl _ _).alloc (Nat.le_refl _) _⟩)
theorem info_u8h:(Tryz.prog.info? 5).map (fun i=>(i.zero,i.size,i.bytes))=some (some (.int .u8 0),1,1):=by kernel_rfl
theorem own_lit {w:World} {g B:Nat} {x:Value} (h:w.heap[g]? = some (.cells #[x] 5 (0,0))) (hB:B<=g):w.ownsRow B 5 1 (.slice (some ⟨g,0,none⟩) 1 1) 1 [x]:=
 ⟨rfl,.inr ⟨g,1,#[x],rfl,hB,h,Nat.le_refl _,by unfold maxLen;omega,rfl,rfl⟩⟩
theorem own_form {w:World} {base size n:Nat} {e:TypeId} {v:Value} {xs:List Value} (h:w.ownsRow base e size v n xs):∃ A c,v=.slice A n c:=by
 rcases h.2 with ⟨h1,rfl⟩ | ⟨g,cap,cur,h1,_⟩
 ·exact ⟨_,_,h1⟩
 ·exact ⟨_,_,h1⟩
def byT (b:Int) (t:Int) (n:Nat):List UInt8:=if t=0 then [byteOf b] else byteOf b :: lohi n
theorem bytes_c (op d s b t:Int) (n:Nat) (h:InsT op d s b t) (hn:t=0->n=0) (hn2:n<=65535) (w:World):Calls Tryz.prog 315 #[.agg #[.int .i64 op,.int .i64 d,.int .i64 s,.int .u16 n]] w (BytK (byT b t n,0) w):=by
 have HR:=LH (fun W=>right_c op d s b t n h (fun e=>by rw [hn e];rfl) W)
 have HH:=LH (fun W=>heads_c op d s b t h W)
 obtain ⟨ht,hb0,hb9⟩:=h.tail
 have w1:IntKind.u8.wrap (n:Int)=((n % 256:Nat):Int):=by rw [IntKind.wrap_u8];omega
 have w2:IntKind.u8.wrap ((n:Int) / 256)=((n / 256:Nat):Int):=by rw [IntKind.wrap_u8];omega
 have B1:=LH ((Below.refl w.heap.size w).alloc (Nat.le_refl _) (.cells #[.int .i64 op,.int .i64 d,.int .i64 s,.int .u16 n] 400))
 have O1:=LH (heap_alloc_new w (.cells #[.int .i64 op,.int .i64 d,.int .i64 s,.int .u16 n] 400))
 clear h
 go_enter Tryz.func315, Tryz.ntmps315
 go_wp2_with fail
 refine (HR.out _).mono ?_
 rintro e w1 ⟨rfl,hb1⟩
 have B2:=LH (bthen B1.out hb1)
 have O2:=LH ((hb1.block w.heap.size (by simp)).trans O1.out)
 have k0:=coh (i:=0) O2.out
 have k1:=coh (i:=1) O2.out
 have k2:=coh (i:=2) O2.out
 simp at k0 k1 k2
 clear hb1 HR B1 O1
 go_wp2_with fail
 refine (HH.out _).mono ?_
 rintro e w2 ⟨g,rfl,h1,h2,hb2⟩
 have B3:=LH (bthen B2.out hb2)
 have O3:=LH ((hb2.block w.heap.size (loh O2.out)).trans O2.out)
 have k3:=coh (i:=3) O3.out
 simp at k3
 have k3a:=fun o=>new_keep (o:=o) k3
 have BW:=B2
 clear k0 k1 k2 k3 hb2 HH B2 O2
 go_wp2_with fail
 have h0:=(Below.heap_alloc (w2.alloc (.cells #[.slice (some ⟨g,0,none⟩) 1 1,.int .i64 t] 418)) (.cells #[.int .u8 ((n:Int) % 256),.int .u8 ((n:Int) / 256)] 5) w2.heap.size (by simp)).trans (heap_alloc_new w2 _)
 have hL:=heap_alloc_new (w2.alloc (.cells #[.slice (some ⟨g,0,none⟩) 1 1,.int .i64 t] 418)) (.cells #[.int .u8 ((n:Int) % 256),.int .u8 ((n:Int) / 256)] 5)
 rw [World.size_alloc] at hL
 have hB:=(B3.out.alloc B3.out.size (.cells #[.slice (some ⟨g,0,none⟩) 1 1,.int .i64 t] 418)).alloc (by have:=B3.out.size;simp;omega) (.cells #[.int .u8 ((n:Int) % 256),.int .u8 ((n:Int) / 256)] 5)
 have hG:=(Below.heap_alloc (w2.alloc (.cells #[.slice (some ⟨g,0,none⟩) 1 1,.int .i64 t] 418)) (.cells #[.int .u8 ((n:Int) % 256),.int .u8 ((n:Int) / 256)] 5) g (by have:=loh h1;simp;omega)).trans ((Below.heap_alloc w2 _ g (loh h1)).trans h1)
 have hgw:w.heap.size<=g:=Nat.le_trans BW.out.size h2
 have c0:=coh (i:=0) h0
 have c1:=coh (i:=1) h0
 have HL:=LH hL
 have HB:=LH hB
 have HG:=LH hG
 have HGW:=LH hgw
 generalize (w2.alloc (.cells #[.slice (some ⟨g,0,none⟩) 1 1,.int .i64 t] 418)).alloc (.cells #[.int .u8 ((n:Int) % 256),.int .u8 ((n:Int) / 256)] 5)=w3 at *
 simp at c0 c1
 generalize w2.heap.size=K2 at *
 clear h0 hL hB hG hgw h1 h2 k3a O3 B3 BW
 have j0:=cell_regrown c0
 have j1:=cell_regrown c1
 clear c0 c1
 have hbv:bv (byteOf b)=.int .u8 b:=by unfold bv byteOf;congr 1;simp;omega
 have HBV:=LH hbv
 clear hbv
 have z0:IntKind.i64.wrap 0=0:=by decide
 have z2:IntKind.i64.wrap 2=2:=by decide
 rcases ht with rfl | rfl
 ·have HZ:Hid (∀ d os,Calls Tryz.prog 325 #[.agg #[.slice (some ⟨g,0,none⟩) 1 1,.int .i64 0]] (Go.Sort.grow (redrawn w3 d) os) fun e w''=>e=.returned (.int .i64 1)/\∃ p:Regrown,w''=Go.Sort.grow (redrawn w3 p.d) p.os):=LH (fun d os=>Calls.regrown_of (hsize_c (some ⟨g,0,none⟩) 1 0 1 (.inl ⟨rfl,rfl⟩) _))
  refine wp_region_quiet_tail 10 (by kernel_rfl) (by kernel_rfl) ?_
  repeat (quiet_step (first | (go_at_call 325;exact HZ.out _ _)))
  refine wpQuiet_nil ?_
  intro _ hw'
  obtain ⟨⟨dq,osq⟩,hw''⟩:=hw'
  subst hw''
  have BQ:=LH (below_regrown w3 dq osq)
  have HGQ:=LH ((BQ.out.block g (loh HG.out)).trans HG.out)
  go_wp2_with fail
  go_ret2
  exact ⟨_,rfl,by have:=Rd.of_own (own_lit HGQ.out (Nat.le_refl g));rw [← HBV.out] at this;exact this,fun x hx=>by cases hx;exact HGW.out,HB.out.trans (BQ.out.mono HB.out.size)⟩
 ·have HZ:Hid (∀ d os,Calls Tryz.prog 325 #[.agg #[.slice (some ⟨g,0,none⟩) 1 1,.int .i64 2]] (Go.Sort.grow (redrawn w3 d) os) fun e w''=>e=.returned (.int .i64 3)/\∃ p:Regrown,w''=Go.Sort.grow (redrawn w3 p.d) p.os):=LH (fun d os=>Calls.regrown_of (hsize_c (some ⟨g,0,none⟩) 1 2 3 (.inr ⟨rfl,rfl⟩) _))
  refine wp_region_quiet_tail 10 (by kernel_rfl) (by kernel_rfl) ?_
  repeat (quiet_step (first | (go_at_call 325;exact HZ.out _ _)))
  refine wpQuiet_nil ?_
  intro _ hw'
  obtain ⟨⟨dq,osq⟩,hw''⟩:=hw'
  subst hw''
  have BQ:=LH (below_regrown w3 dq osq)
  have HGQ:=LH ((BQ.out.block g (loh HG.out)).trans HG.out)
  have HLQ:=LH ((BQ.out.block _ (loh HL.out)).trans HL.out)
  have hlo:(lohi n).map bv = [.int .u8 ((n:Int) % 256),.int .u8 ((n:Int) / 256)]:=by
   simp [lohi,bv]
   omega
  have HLO:=LH hlo
  clear hlo
  refine wpList_append_rd _ rfl (.tmp 28) (.tmp 36) 75 rfl w.heap.size 5 _ 1 1 Tryz.underlying75 info_u8h rfl (by omega) (own_lit HGQ.out HGW.out) rfl (B:=(Go.Sort.grow (redrawn w3 dq) osq).heap.size) (m:=2) (news:=[.int .u8 ((n:Int) % 256),.int .u8 ((n:Int) / 256)]) ⟨_,_,rfl,Nat.le_refl _,fun _=>⟨_,_,rfl,loh HLQ.out,fun j u hj=>by rw [Nat.zero_add,coh HLQ.out,List.getElem?_toArray];exact hj⟩⟩ rfl rfl (by simp [Value.oneCell']) (by omega) (by omega) (Nat.le_trans HB.out.size BQ.out.size) ?_
  intro v9 w9 hown9 hbel9 _
  have ON:=LH hown9
  have BN:=LH hbel9
  obtain ⟨A9,c9,rfl⟩:=own_form hown9
  clear hown9 hbel9
  go_wp2_with fail
  go_ret2
  exact ⟨_,rfl,by have:=Rd.of_own ON.out;rw [← HBV.out,← HLO.out] at this;exact this,fun x hx=>(ON.out.lt x hx).1,HB.out.trans (((BQ.out.mono HB.out.size)).trans BN.out)⟩
theorem size_c (op d s b t k:Int) (h:InsT op d s b t) (hk:(t=0/\k=1)∨(t=2/\k=3)) (w:World):Calls Tryz.prog 311 #[.agg #[.int .i64 op,.int .i64 d,.int .i64 s,.int .u16 0]] w fun e w'=>e=.returned (.int .i64 k)/\Below w.heap.size w w':=by
 have HB:=LH (fun W=>bytes_c op d s b t 0 h (fun _=>rfl) (by omega) W)
 have hl:((byT b t 0).length:Int)=k:=by rcases hk with ⟨rfl,rfl⟩ | ⟨rfl,rfl⟩ <;> rfl
 clear hk h
 go_enter Tryz.func311, Tryz.ntmps311
 go_wp2_with fail
 refine (HB.out _).mono ?_
 rintro e w1 ⟨v,rfl,⟨A,c,rfl,_,_⟩,_,hb1⟩
 trace_state
 go_wp2_with fail
 go_ret
 exact ⟨rfl,bthen ((Below.refl _ _).alloc (Nat.le_refl _) _) hb1⟩
theorem narrow_c (n:Nat) (w:World):Calls Tryz.prog 313 #[.agg #[.int .i64 1,.int .i64 12,.int .i64 20,.int .u16 0],.int .u16 n] w fun e w'=>e=.returned (.tuple #[.agg #[.int .i64 1,.int .i64 12,.int .i64 20,.int .u16 n],.int .i64 0])/\Below w.heap.size w w':=by
 have HJ:=LH (fun W=>jumps_c 1 12 20 187 2 256 (by simp [InsT]) W)
 have HR:=LH (fun W=>right_c 1 12 20 187 2 256 (by simp [InsT]) (by simp) W)
 have B0:=LH (((Below.refl w.heap.size w).alloc (Nat.le_refl _) (.cells #[.int .i64 1,.int .i64 12,.int .i64 20,.int .u16 256] 400)).alloc (by simp) (.cells #[.int .i64 0,.int .i64 0,.int .i64 0,.int .u16 0] 400))
 have O0:=LH ((Below.heap_alloc (w.alloc (.cells #[.int .i64 1,.int .i64 12,.int .i64 20,.int .u16 256] 400)) (.cells #[.int .i64 0,.int .i64 0,.int .i64 0,.int .u16 0] 400) w.heap.size (by simp)).trans (heap_alloc_new w _))
 have hP:=heap_alloc_new (w.alloc (.cells #[.int .i64 1,.int .i64 12,.int .i64 20,.int .u16 256] 400)) (.cells #[.int .i64 0,.int .i64 0,.int .i64 0,.int .u16 0] 400)
 rw [World.size_alloc] at hP
 have P0:=LH hP
 clear hP
 go_enter Tryz.func313, Tryz.ntmps313
 go_wp2_with fail
 refine (HJ.out _).mono ?_
 rintro e w1 ⟨rfl,hb1⟩
 have B1:=LH (bthen B0.out hb1)
 have O1:=LH ((hb1.block w.heap.size (by simp;omega)).trans O0.out)
 have P1:=LH ((hb1.block (w.heap.size+1) (by simp)).trans P0.out)
 have c0:=coh (i:=0) O1.out
 have c1:=coh (i:=1) O1.out
 have c2:=coh (i:=2) O1.out
 have c3:=coh (i:=3) O1.out
 simp at c0 c1 c2 c3
 clear hb1 B0 O0 P0 HJ
 go_wp2_with fail
 refine (HR.out _).mono ?_
 rintro e w2 ⟨rfl,hb2⟩
 have B2:=LH (bthen B1.out hb2)
 have O2:=LH ((hb2.block w.heap.size (loh O1.out)).trans O1.out)
 have P2:=LH ((hb2.block (w.heap.size+1) (loh P1.out)).trans P1.out)
 clear hb2 B1 O1 P1 HR c0 c1 c2 c3
 have c0:=coh (i:=0) O2.out
 have c1:=coh (i:=1) O2.out
 have c2:=coh (i:=2) O2.out
 have c3:=coh (i:=3) O2.out
 have f3:=foh (i:=3) O2.out
 have q0:=coh (i:=0) P2.out
 have q1:=coh (i:=1) P2.out
 have q2:=coh (i:=2) P2.out
 have q3:=coh (i:=3) P2.out
 have g0:=foh (i:=0) P2.out
 have g1:=foh (i:=1) P2.out
 have g2:=foh (i:=2) P2.out
 have g3:=foh (i:=3) P2.out
 simp at c0 c1 c2 c3 f3 q0 q1 q2 q3 g0 g1 g2 g3
 go_wp2_with fail
 refine bodyPost_ret (v:=.tuple #[.agg #[.int .i64 1,.int .i64 12,.int .i64 20,.int .u16 n],.int .i64 0]) (by simp [results,Tryz.results313,go_sem,q0,q1,q2,q3]) rfl ?_
 exact ⟨rfl,((((B2.out.setCell (Nat.le_refl _) _).setCell (Nat.le_succ _) _).setCell (Nat.le_succ _) _).setCell (Nat.le_succ _) _).setCell (Nat.le_succ _) _⟩
end Go.Proofs.YtbdnbfacalfciaaGreatDoor
