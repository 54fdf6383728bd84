/- Ks. -/
import Derived.Test.YtbdnbfacalfciaaGreatDoorKo
import Derived.Deep.QuietTactic
import Derived.BigQuiet
import Derived.StillTailTactics
namespace Go.Proofs.YtbdnbfacalfciaaGreatDoor
set_option maxRecDepth 100000
set_option maxHeartbeats 4000000
open Go.RowKit
theorem oper_M1w (op:List UInt8) (k1:Int) (m1:List UInt8) (n0 n1 n2:Nat) (v:Value) (w:World) (hg:GWL w) (hok:okT [(k1,m1,n1)]) (hp:pairT [(4,[40],n0),(k1,m1,n1),(4,[41],n2)] [40] [41]=true) (hk:k1=1) (hwd:wordB 1 (40 :: (m1++[41]))=true) (hr:Rd w w.heap.size v 3 (tokRow [(4,[40],n0),(k1,m1,n1),(4,[41],n2)])) :
  Calls Tryz.prog 68 #[.agg #[v,.int .i64 1],.string ⟨op.toArray⟩] w (OperP w (⟨(40 :: (m1++[41])),[],false,false,ex0⟩,0)):=by
 have HP:=LH (fun W (hW:Below w.heap.size w W)=>pair_any [(4,[40],n0),(k1,m1,n1),(4,[41],n2)] [40] [41] v W ((hr.below hW).more hW.size) (by simp))
 rw [hp] at HP
 have HW:=LH (fun W (hW:GWL W)=>word12_any 1 (40 :: (m1++[41])) W hW)
 obtain ⟨A,c,rfl,hc⟩:=hr.form
 obtain ⟨g,o,rfl,hgl,c0,c1,c2⟩:=hr.tok (ts:=[(4,[40],n0),(k1,m1,n1),(4,[41],n2)]) 0 (by simp)
 obtain ⟨g',o',ha,_,d0,d1,d2⟩:=hr.tok (ts:=[(4,[40],n0),(k1,m1,n1),(4,[41],n2)]) 1 (by simp)
 injection ha with ha
 injection ha with ha1 ha2 _
 subst ha1 ha2
 obtain ⟨g',o',ha,_,e0,e1,e2⟩:=hr.tok (ts:=[(4,[40],n0),(k1,m1,n1),(4,[41],n2)]) 2 (by simp)
 injection ha with ha
 injection ha with ha1 ha2 _
 subst ha1 ha2
 have hmid:=Rd.mid (ts:=[(4,[40],n0),(k1,m1,n1),(4,[41],n2)]) hr (by simp)
 have HM:=LH (show Rd w w.heap.size (.slice (some ⟨g,o+3,none⟩) 1 (c - 1)) 1 (tokRow [(k1,m1,n1)]) from hmid)
 have HN:=LH (fun W (hW:Below w.heap.size w W)=>tname_any [(k1,m1,n1)] 0 (by omega) _ W ((HM.out.below hW).more hW.size))
 have HAll:=LH (fun W (hW:Below w.heap.size w W)=>all_any [(k1,m1,n1)] _ W ((HM.out.below hW).more hW.size) (by simp) hok)
 simp at c0 c1 c2 d0 d1 d2 e0 e1 e2
 have B0:=LH (((Below.refl w.heap.size w).alloc (Nat.le_refl _) (rdBox (.slice (some ⟨g,o,none⟩) 3 c) 1)).alloc (by simp) arBox)
 have G0:=LH (hg.below B0.out)
 have hnew:=heap_alloc_new (w.alloc (rdBox (.slice (some ⟨g,o,none⟩) 3 c) 1)) arBox
 rw [show (w.alloc (rdBox (.slice (some ⟨g,o,none⟩) 3 c) 1)).heap.size=w.heap.size+1 by simp] at hnew
 have HC1:=LH hnew
 have hm1:m1.length<=1000:=(hok (k1,m1,n1) (by simp)).2
 have hm2:¬ 9223372036854775807<1+m1.length:=by omega
 have hm3:¬ 9223372036854775807<m1.length+1+1:=by omega
 have hm4:¬ 9223372036854775807<1+m1.length+1:=by omega
 clear hr hmid hp hok hnew
 subst hk
 rw [hwd] at HW
 rw [show nameT [(1,m1,n1)] (0:Int).toNat=true from rfl] at HN
 clear hwd
 have HNs:=LH (show Calls Tryz.prog 64 #[.slice (some ⟨g,o+3,none⟩) 1 (c - 1),.int .i64 0] ((w.alloc (rdBox (.slice (some ⟨g,o,none⟩) 3 c) 1)).alloc arBox).drew.drew (fun e w''=>e=.returned (.bool true)/\w''=((w.alloc (rdBox (.slice (some ⟨g,o,none⟩) 3 c) 1)).alloc arBox).drew.drew) from (HN.out _ B0.out.drew.drew).mono fun e w'' h=>⟨h.1,h.2.symm⟩)
 go_enter Tryz.func68, Tryz.ntmps68
 go_wp2_with fail
 refine (HP.out _ B0.out).mono ?_
 rintro e w4 ⟨rfl,rfl⟩
 go_wp2_with fail
 first | (go_region_with fail) | fail
 all_goals (
  go_wp2_with fail
  go_still_tail 18,(by kernel_rfl)
  refine wpStill_step (fun K hK=>?_)
  go_simp
  refine ⟨.bool true,HNs.out,hK _ ?_⟩
  clear hK K
  change wpStill _ _ ((w.alloc (rdBox (.slice (some ⟨g,o,none⟩) 3 c) 1)).alloc arBox).drew.drew _ _ _
  repeat still_step
  refine wpStill_nil ?_
  change wpList _ _ _ _ _ ((w.alloc (rdBox (.slice (some ⟨g,o,none⟩) 3 c) 1)).alloc arBox).drew.drew
  go_wp2_with fail
  refine (HW.out _ (G0.out.below ((Below.refl _ _).drew.drew))).mono ?_
  rintro e1 w3 ⟨rfl,hb3⟩
  obtain ⟨C0,C1,B1⟩:=boxes ((Below.refl _ _).drew.drew.trans hb3)
  obtain ⟨⟨x0,x1,x2,x3,x4,x5,x6,x7⟩,g0,g1,g2,g3,g4,g5,g6,g7⟩:=eight C1
  have HB1:=LH B1
  have y1:=(B1.cell (p:=⟨g,o+3+1,none⟩) hgl).trans d1
  clear C0 C1 B1 hb3 d1
  go_wp2_with fail
  exact bodyPost_ret (v:=.tuple #[.agg #[.string ⟨(40 :: (m1++[41])).toArray⟩,.string ⟨#[]⟩,.bool false,.bool false,.string ⟨#[]⟩,.int .u16 0,.string ⟨#[]⟩,.slice none 0 0],.int .i64 0]) (by simp [results,Tryz.results68,go_sem,x0,x1,x2,x3,x4,x5,x6,x7]) rfl ⟨_,rfl,SubAt.nil _ _,bset8 HB1.out (by omega) _ _ _ _ _ _ _ _⟩)
theorem oper_M1f (op:List UInt8) (k1:Int) (m1:List UInt8) (n0 n1 n2:Nat) (v:Value) (w:World) (hg:GWL w) (hok:okT [(k1,m1,n1)]) (hp:pairT [(4,[40],n0),(k1,m1,n1),(4,[41],n2)] [40] [41]=true) (hk:k1=1) (hwd:wordB 1 (40 :: (m1++[41]))=false) (hr:Rd w w.heap.size v 3 (tokRow [(4,[40],n0),(k1,m1,n1),(4,[41],n2)])) :
  Calls Tryz.prog 68 #[.agg #[v,.int .i64 1],.string ⟨op.toArray⟩] w (OperP w (⟨[],[],false,true,(allE [(k1,m1,n1)]).1⟩,(allE [(k1,m1,n1)]).2)):=by
 have HP:=LH (fun W (hW:Below w.heap.size w W)=>pair_any [(4,[40],n0),(k1,m1,n1),(4,[41],n2)] [40] [41] v W ((hr.below hW).more hW.size) (by simp))
 rw [hp] at HP
 have HW:=LH (fun W (hW:GWL W)=>word12_any 1 (40 :: (m1++[41])) W hW)
 obtain ⟨A,c,rfl,hc⟩:=hr.form
 obtain ⟨g,o,rfl,hgl,c0,c1,c2⟩:=hr.tok (ts:=[(4,[40],n0),(k1,m1,n1),(4,[41],n2)]) 0 (by simp)
 obtain ⟨g',o',ha,_,d0,d1,d2⟩:=hr.tok (ts:=[(4,[40],n0),(k1,m1,n1),(4,[41],n2)]) 1 (by simp)
 injection ha with ha
 injection ha with ha1 ha2 _
 subst ha1 ha2
 obtain ⟨g',o',ha,_,e0,e1,e2⟩:=hr.tok (ts:=[(4,[40],n0),(k1,m1,n1),(4,[41],n2)]) 2 (by simp)
 injection ha with ha
 injection ha with ha1 ha2 _
 subst ha1 ha2
 have hmid:=Rd.mid (ts:=[(4,[40],n0),(k1,m1,n1),(4,[41],n2)]) hr (by simp)
 have HM:=LH (show Rd w w.heap.size (.slice (some ⟨g,o+3,none⟩) 1 (c - 1)) 1 (tokRow [(k1,m1,n1)]) from hmid)
 have HN:=LH (fun W (hW:Below w.heap.size w W)=>tname_any [(k1,m1,n1)] 0 (by omega) _ W ((HM.out.below hW).more hW.size))
 have HAll:=LH (fun W (hW:Below w.heap.size w W)=>all_any [(k1,m1,n1)] _ W ((HM.out.below hW).more hW.size) (by simp) hok)
 simp at c0 c1 c2 d0 d1 d2 e0 e1 e2
 have B0:=LH (((Below.refl w.heap.size w).alloc (Nat.le_refl _) (rdBox (.slice (some ⟨g,o,none⟩) 3 c) 1)).alloc (by simp) arBox)
 have G0:=LH (hg.below B0.out)
 have hnew:=heap_alloc_new (w.alloc (rdBox (.slice (some ⟨g,o,none⟩) 3 c) 1)) arBox
 rw [show (w.alloc (rdBox (.slice (some ⟨g,o,none⟩) 3 c) 1)).heap.size=w.heap.size+1 by simp] at hnew
 have HC1:=LH hnew
 have hm1:m1.length<=1000:=(hok (k1,m1,n1) (by simp)).2
 have hm2:¬ 9223372036854775807<1+m1.length:=by omega
 have hm3:¬ 9223372036854775807<m1.length+1+1:=by omega
 have hm4:¬ 9223372036854775807<1+m1.length+1:=by omega
 clear hr hmid hp hok hnew
 subst hk
 rw [hwd] at HW
 rw [show nameT [(1,m1,n1)] (0:Int).toNat=true from rfl] at HN
 clear hwd
 generalize allE [(1,m1,n1)]=out at *
 obtain ⟨re,rk⟩:=out
 have HNs:=LH (show Calls Tryz.prog 64 #[.slice (some ⟨g,o+3,none⟩) 1 (c - 1),.int .i64 0] ((w.alloc (rdBox (.slice (some ⟨g,o,none⟩) 3 c) 1)).alloc arBox).drew.drew (fun e w''=>e=.returned (.bool true)/\w''=((w.alloc (rdBox (.slice (some ⟨g,o,none⟩) 3 c) 1)).alloc arBox).drew.drew) from (HN.out _ B0.out.drew.drew).mono fun e w'' h=>⟨h.1,h.2.symm⟩)
 go_enter Tryz.func68, Tryz.ntmps68
 go_wp2_with fail
 refine (HP.out _ B0.out).mono ?_
 rintro e w4 ⟨rfl,rfl⟩
 go_wp2_with fail
 first | (go_region_with fail) | fail
 all_goals (
  go_wp2_with fail
  go_still_tail 18,(by kernel_rfl)
  refine wpStill_step (fun K hK=>?_)
  go_simp
  refine ⟨.bool true,HNs.out,hK _ ?_⟩
  clear hK K
  change wpStill _ _ ((w.alloc (rdBox (.slice (some ⟨g,o,none⟩) 3 c) 1)).alloc arBox).drew.drew _ _ _
  repeat still_step
  refine wpStill_nil ?_
  change wpList _ _ _ _ _ ((w.alloc (rdBox (.slice (some ⟨g,o,none⟩) 3 c) 1)).alloc arBox).drew.drew
  go_wp2_with fail
  refine (HW.out _ (G0.out.below ((Below.refl _ _).drew.drew))).mono ?_
  rintro e1 w3 ⟨rfl,hb3⟩
  obtain ⟨C0,C1,B1⟩:=boxes ((Below.refl _ _).drew.drew.trans hb3)
  have HBw:=LH B1
  have HC1:=LH C1
  clear C0 C1 B1 hb3
  go_wp2_with fail
  refine (HAll.out _ HBw.out).mono ?_
  rintro e w5 ⟨vs,rfl,hsub,hok,hb5⟩
  obtain ⟨sA,sc,rfl,hsc,hsm⟩:=hsub.form
  obtain ⟨⟨k0,k1,k2,k3,k4,k5,k6,k7⟩,g0,g1,g2,g3,g4,g5,g6,g7⟩:=eight ((hb5.block _ (loh HC1.out)).trans HC1.out)
  have hH:w.heap.size+1<w5.heap.size:=Nat.lt_of_lt_of_le (loh HC1.out) hb5.size
  have HB5:=LH (bthen (HBw.out) hb5)
  have HSUB:Hid (SubAt w5 (fun g=>w.heap.size+2<=g/\g<w5.heap.size) (.slice sA re.sub.length sc) re.sub):=LH (hsub.more (fun g hg=>⟨Nat.le_trans (loh HC1.out) hg.1,hg.2⟩))
  clear hsub hb5 hok
  go_wp2_with fail
  refine bodyPost_ret (v:=.tuple #[.agg #[.string ⟨#[]⟩,.string ⟨#[]⟩,.bool false,.bool true,.string ⟨re.op.toArray⟩,.int .u16 re.n,.string ⟨re.name.toArray⟩,.slice sA re.sub.length sc],.int .i64 rk]) (by simp [results,Tryz.results68,go_sem,k0,k1,k2,k3,k4,k5,k6,k7,hH]) rfl ⟨_,rfl,?_,?_⟩
  ·exact (HSUB.out.set8 (b:=w.heap.size+1) (fun g hg=>by omega) _ _ _ _ _ _ _ _).newer (fun g hg=>by simpa using hg.2) (fun g hg=>⟨by omega,by simp;omega⟩) _
  ·exact (bset8 HB5.out (by omega) _ _ _ _ _ _ _ _).alloc (by simpa using HB5.out.size) _)
theorem oper_M1n (op:List UInt8) (k1:Int) (m1:List UInt8) (n0 n1 n2:Nat) (v:Value) (w:World) (hg:GWL w) (hok:okT [(k1,m1,n1)]) (hp:pairT [(4,[40],n0),(k1,m1,n1),(4,[41],n2)] [40] [41]=true) (hk:k1≠1) (hr:Rd w w.heap.size v 3 (tokRow [(4,[40],n0),(k1,m1,n1),(4,[41],n2)])) :
  Calls Tryz.prog 68 #[.agg #[v,.int .i64 1],.string ⟨op.toArray⟩] w (OperP w (⟨[],[],false,true,(allE [(k1,m1,n1)]).1⟩,(allE [(k1,m1,n1)]).2)):=by
 have HP:=LH (fun W (hW:Below w.heap.size w W)=>pair_any [(4,[40],n0),(k1,m1,n1),(4,[41],n2)] [40] [41] v W ((hr.below hW).more hW.size) (by simp))
 rw [hp] at HP
 have HW:=LH (fun W (hW:GWL W)=>word12_any 1 (40 :: (m1++[41])) W hW)
 obtain ⟨A,c,rfl,hc⟩:=hr.form
 obtain ⟨g,o,rfl,hgl,c0,c1,c2⟩:=hr.tok (ts:=[(4,[40],n0),(k1,m1,n1),(4,[41],n2)]) 0 (by simp)
 obtain ⟨g',o',ha,_,d0,d1,d2⟩:=hr.tok (ts:=[(4,[40],n0),(k1,m1,n1),(4,[41],n2)]) 1 (by simp)
 injection ha with ha
 injection ha with ha1 ha2 _
 subst ha1 ha2
 obtain ⟨g',o',ha,_,e0,e1,e2⟩:=hr.tok (ts:=[(4,[40],n0),(k1,m1,n1),(4,[41],n2)]) 2 (by simp)
 injection ha with ha
 injection ha with ha1 ha2 _
 subst ha1 ha2
 have hmid:=Rd.mid (ts:=[(4,[40],n0),(k1,m1,n1),(4,[41],n2)]) hr (by simp)
 have HM:=LH (show Rd w w.heap.size (.slice (some ⟨g,o+3,none⟩) 1 (c - 1)) 1 (tokRow [(k1,m1,n1)]) from hmid)
 have HN:=LH (fun W (hW:Below w.heap.size w W)=>tname_any [(k1,m1,n1)] 0 (by omega) _ W ((HM.out.below hW).more hW.size))
 have HAll:=LH (fun W (hW:Below w.heap.size w W)=>all_any [(k1,m1,n1)] _ W ((HM.out.below hW).more hW.size) (by simp) hok)
 simp at c0 c1 c2 d0 d1 d2 e0 e1 e2
 have B0:=LH (((Below.refl w.heap.size w).alloc (Nat.le_refl _) (rdBox (.slice (some ⟨g,o,none⟩) 3 c) 1)).alloc (by simp) arBox)
 have G0:=LH (hg.below B0.out)
 have hnew:=heap_alloc_new (w.alloc (rdBox (.slice (some ⟨g,o,none⟩) 3 c) 1)) arBox
 rw [show (w.alloc (rdBox (.slice (some ⟨g,o,none⟩) 3 c) 1)).heap.size=w.heap.size+1 by simp] at hnew
 have HC1:=LH hnew
 have hm1:m1.length<=1000:=(hok (k1,m1,n1) (by simp)).2
 have hm2:¬ 9223372036854775807<1+m1.length:=by omega
 have hm3:¬ 9223372036854775807<m1.length+1+1:=by omega
 have hm4:¬ 9223372036854775807<1+m1.length+1:=by omega
 clear hr hmid hp hok hnew
 rw [show nameT [(k1,m1,n1)] (0:Int).toNat=false by simp [nameT,hk]] at HN
 clear hk
 generalize allE [(k1,m1,n1)]=out at *
 obtain ⟨re,rk⟩:=out
 have HNs:=LH (show Calls Tryz.prog 64 #[.slice (some ⟨g,o+3,none⟩) 1 (c - 1),.int .i64 0] ((w.alloc (rdBox (.slice (some ⟨g,o,none⟩) 3 c) 1)).alloc arBox).drew.drew (fun e w''=>e=.returned (.bool false)/\w''=((w.alloc (rdBox (.slice (some ⟨g,o,none⟩) 3 c) 1)).alloc arBox).drew.drew) from (HN.out _ B0.out.drew.drew).mono fun e w'' h=>⟨h.1,h.2.symm⟩)
 go_enter Tryz.func68, Tryz.ntmps68
 go_wp2_with fail
 refine (HP.out _ B0.out).mono ?_
 rintro e w4 ⟨rfl,rfl⟩
 go_wp2_with fail
 first | (go_region_with fail) | fail
 all_goals (
  go_wp2_with fail
  go_quiet ((go_at_call 64;refine (HN.out _ (below_dn B0.out _)).mono ?_;rintro e w7 ⟨rfl,rfl⟩;exact ⟨rfl,_,rfl⟩))
  go_wp2_with fail
  refine (HAll.out _ (below_dn B0.out _)).mono ?_
  rintro e w5 ⟨vs,rfl,hsub,hok,hb5⟩
  obtain ⟨sA,sc,rfl,hsc,hsm⟩:=hsub.form
  obtain ⟨⟨k0,k1,k2,k3,k4,k5,k6,k7⟩,g0,g1,g2,g3,g4,g5,g6,g7⟩:=eight ((hb5.block _ (loh HC1.out)).trans HC1.out)
  have hH:w.heap.size+1<w5.heap.size:=Nat.lt_of_lt_of_le (loh HC1.out) hb5.size
  have HB5:=LH (bthen ((below_dn B0.out _)) hb5)
  have HSUB:Hid (SubAt w5 (fun g=>w.heap.size+2<=g/\g<w5.heap.size) (.slice sA re.sub.length sc) re.sub):=LH (hsub.more (fun g hg=>⟨Nat.le_trans (loh HC1.out) hg.1,hg.2⟩))
  clear hsub hb5 hok
  go_wp2_with fail
  refine bodyPost_ret (v:=.tuple #[.agg #[.string ⟨#[]⟩,.string ⟨#[]⟩,.bool false,.bool true,.string ⟨re.op.toArray⟩,.int .u16 re.n,.string ⟨re.name.toArray⟩,.slice sA re.sub.length sc],.int .i64 rk]) (by simp [results,Tryz.results68,go_sem,k0,k1,k2,k3,k4,k5,k6,k7,hH]) rfl ⟨_,rfl,?_,?_⟩
  ·exact (HSUB.out.set8 (b:=w.heap.size+1) (fun g hg=>by omega) _ _ _ _ _ _ _ _).newer (fun g hg=>by simpa using hg.2) (fun g hg=>⟨by omega,by simp;omega⟩) _
  ·exact (bset8 HB5.out (by omega) _ _ _ _ _ _ _ _).alloc (by simpa using HB5.out.size) _)
end Go.Proofs.YtbdnbfacalfciaaGreatDoor
