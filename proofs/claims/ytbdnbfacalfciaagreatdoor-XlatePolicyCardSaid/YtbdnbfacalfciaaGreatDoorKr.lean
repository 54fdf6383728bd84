/- Kr. -/
import Derived.Test.YtbdnbfacalfciaaGreatDoorKo
import Derived.Deep.QuietTactic
import Derived.BigQuiet
namespace Go.Proofs.YtbdnbfacalfciaaGreatDoor
set_option maxRecDepth 100000
set_option maxHeartbeats 4000000
open Go.RowKit
theorem oper_n (d:Int) (op:List UInt8) (tk:Int) (m:List UInt8) (n:Nat) (v:Value) (w:World) (hg:GWL w) (htk:tk=1) (hwd:wordB d m=false) (hok:okT [(tk,m,n)]) (hr:Rd w w.heap.size v 1 (tokRow [(tk,m,n)])) :
  Calls Tryz.prog 68 #[.agg #[v,.int .i64 d],.string ⟨op.toArray⟩] w (OperP w (⟨[],[],false,false,(allE [(tk,m,n)]).1⟩,(allE [(tk,m,n)]).2)):=by
 have HN:=LH (fun W (hW:Below w.heap.size w W)=>tname_any [(tk,m,n)] 0 (by omega) v W ((hr.below hW).more hW.size))
 have HW:=LH (fun W (hW:GWL W)=>word12_any d m W hW)
 have HP4:=LH (fun W (hW:Below w.heap.size w W)=>pair_any [(tk,m,n)] [40] [41] v W ((hr.below hW).more hW.size) (by simp))
 have HP9:=LH (fun W (hW:Below w.heap.size w W)=>pair_any [(tk,m,n)] [91] [93] v W ((hr.below hW).more hW.size) (by simp))
 rw [pairT_one] at HP4 HP9
 have HAll:=LH (fun W (hW:Below w.heap.size w W)=>all_any [(tk,m,n)] v W ((hr.below hW).more hW.size) (by simp) hok)
 generalize allE [(tk,m,n)]=out at *
 obtain ⟨re,rk⟩:=out
 obtain ⟨A,c,rfl,hc⟩:=hr.form
 obtain ⟨g,o,rfl,hgl,c0,c1,c2⟩:=hr.tok (ts:=[(tk,m,n)]) 0 (by simp)
 simp at c0 c1 c2
 have B0:=LH (((Below.refl w.heap.size w).alloc (Nat.le_refl _) (rdBox (.slice (some ⟨g,o,none⟩) 1 c) d)).alloc (by simp) arBox)
 have G0:=LH (hg.below B0.out)
 clear hr hok
 subst htk
 rw [hwd] at HW
 rw [show nameT [(1,m,n)] (0:Int).toNat=true from rfl] at HN
 clear hwd
 have key:d=1∨d=2∨((d == 1)=false/\(d == 2)=false):=by
  by_cases h1:d=1
  ·exact .inl h1
  ·by_cases h2:d=2
   ·exact .inr (.inl h2)
   ·exact .inr (.inr ⟨by simpa using h1,by simpa using h2⟩)
 rcases key with rfl | rfl | ⟨hd1,hd2⟩
 ·go_enter Tryz.func68, Tryz.ntmps68
  go_wp2_with fail
  first | (go_region_with (first | (go_at_call 64;refine (HN.out _ ?_).mono ?_;exact B0.out.drew;rintro e1 w2 ⟨rfl,rfl⟩) | (go_at_call 115;refine (HW.out _ ?_).mono ?_;exact G0.out.below (Below.refl _ _).drew;rintro e1 w3 ⟨rfl,hb3⟩))) | fail
  all_goals (
   obtain ⟨C0,C1,B1⟩:=boxes ((Below.refl _ _).drew.trans hb3)
   have HBw:=LH B1
   have HC1:=LH C1
   have r1:=coh (i:=1) C0
   simp at r1
   clear C0 C1 B1 hb3
   go_wp2_with fail
   refine (HP4.out _ HBw.out).mono ?_
   rintro e w4 ⟨rfl,rfl⟩
   go_wp2_with fail
   refine (HAll.out _ HBw.out).mono ?_
   rintro e w5 ⟨vs,rfl,hsub,hok,hb5⟩
   obtain ⟨sA,sc,rfl,hsc,hsm⟩:=hsub.form
   obtain ⟨⟨k0,k1,k2,k3,k4,k5,k6,k7⟩,g0,g1,g2,g3,g4,g5,g6,g7⟩:=eight ((hb5.block _ (loh HC1.out)).trans HC1.out)
   have hH:w.heap.size+1<w5.heap.size:=Nat.lt_of_lt_of_le (loh HC1.out) hb5.size
   have HB5:=LH (bthen (HBw.out) hb5)
   have HSUB:Hid (SubAt w5 (fun g=>w.heap.size+2<=g/\g<w5.heap.size) (.slice sA re.sub.length sc) re.sub):=LH (hsub.more (fun g hg=>⟨Nat.le_trans (loh HC1.out) hg.1,hg.2⟩))
   clear hsub hb5 hok
   go_wp2_with fail
   refine bodyPost_ret (v:=.tuple #[.agg #[.string ⟨#[]⟩,.string ⟨#[]⟩,.bool false,.bool false,.string ⟨re.op.toArray⟩,.int .u16 re.n,.string ⟨re.name.toArray⟩,.slice sA re.sub.length sc],.int .i64 rk]) (by simp [results,Tryz.results68,go_sem,k0,k1,k2,k3,k4,k5,k6,k7,hH]) rfl ⟨_,rfl,?_,?_⟩
   ·exact (HSUB.out.set8 (b:=w.heap.size+1) (fun g hg=>by omega) _ _ _ _ _ _ _ _).newer (fun g hg=>by simpa using hg.2) (fun g hg=>⟨by omega,by simp;omega⟩) _
   ·exact (bset8 HB5.out (by omega) _ _ _ _ _ _ _ _).alloc (by simpa using HB5.out.size) _)
 ·go_enter Tryz.func68, Tryz.ntmps68
  go_wp2_with fail
  first | (go_region_with (first | (go_at_call 64;refine (HN.out _ ?_).mono ?_;exact B0.out.drew;rintro e1 w2 ⟨rfl,rfl⟩) | (go_at_call 115;refine (HW.out _ ?_).mono ?_;exact G0.out.below (Below.refl _ _).drew;rintro e1 w3 ⟨rfl,hb3⟩))) | fail
  all_goals (
   obtain ⟨C0,C1,B1⟩:=boxes ((Below.refl _ _).drew.trans hb3)
   have HBw:=LH B1
   have HC1:=LH C1
   have r1:=coh (i:=1) C0
   simp at r1
   clear C0 C1 B1 hb3
   go_wp2_with fail
   refine (HP9.out _ HBw.out).mono ?_
   rintro e w4 ⟨rfl,rfl⟩
   go_wp2_with fail
   refine (HAll.out _ HBw.out).mono ?_
   rintro e w5 ⟨vs,rfl,hsub,hok,hb5⟩
   obtain ⟨sA,sc,rfl,hsc,hsm⟩:=hsub.form
   obtain ⟨⟨k0,k1,k2,k3,k4,k5,k6,k7⟩,g0,g1,g2,g3,g4,g5,g6,g7⟩:=eight ((hb5.block _ (loh HC1.out)).trans HC1.out)
   have hH:w.heap.size+1<w5.heap.size:=Nat.lt_of_lt_of_le (loh HC1.out) hb5.size
   have HB5:=LH (bthen (HBw.out) hb5)
   have HSUB:Hid (SubAt w5 (fun g=>w.heap.size+2<=g/\g<w5.heap.size) (.slice sA re.sub.length sc) re.sub):=LH (hsub.more (fun g hg=>⟨Nat.le_trans (loh HC1.out) hg.1,hg.2⟩))
   clear hsub hb5 hok
   go_wp2_with fail
   refine bodyPost_ret (v:=.tuple #[.agg #[.string ⟨#[]⟩,.string ⟨#[]⟩,.bool false,.bool false,.string ⟨re.op.toArray⟩,.int .u16 re.n,.string ⟨re.name.toArray⟩,.slice sA re.sub.length sc],.int .i64 rk]) (by simp [results,Tryz.results68,go_sem,k0,k1,k2,k3,k4,k5,k6,k7,hH]) rfl ⟨_,rfl,?_,?_⟩
   ·exact (HSUB.out.set8 (b:=w.heap.size+1) (fun g hg=>by omega) _ _ _ _ _ _ _ _).newer (fun g hg=>by simpa using hg.2) (fun g hg=>⟨by omega,by simp;omega⟩) _
   ·exact (bset8 HB5.out (by omega) _ _ _ _ _ _ _ _).alloc (by simpa using HB5.out.size) _)
 ·go_enter Tryz.func68, Tryz.ntmps68
  go_wp2_with fail
  first | (go_region_with (first | (go_at_call 64;refine (HN.out _ ?_).mono ?_;exact B0.out.drew;rintro e1 w2 ⟨rfl,rfl⟩) | (go_at_call 115;refine (HW.out _ ?_).mono ?_;exact G0.out.below (Below.refl _ _).drew;rintro e1 w3 ⟨rfl,hb3⟩))) | fail
  all_goals (
   obtain ⟨C0,C1,B1⟩:=boxes ((Below.refl _ _).drew.trans hb3)
   have HBw:=LH B1
   have HC1:=LH C1
   have r1:=coh (i:=1) C0
   simp at r1
   clear C0 C1 B1 hb3
   go_wp2_with fail
   refine (HAll.out _ HBw.out).mono ?_
   rintro e w5 ⟨vs,rfl,hsub,hok,hb5⟩
   obtain ⟨sA,sc,rfl,hsc,hsm⟩:=hsub.form
   obtain ⟨⟨k0,k1,k2,k3,k4,k5,k6,k7⟩,g0,g1,g2,g3,g4,g5,g6,g7⟩:=eight ((hb5.block _ (loh HC1.out)).trans HC1.out)
   have hH:w.heap.size+1<w5.heap.size:=Nat.lt_of_lt_of_le (loh HC1.out) hb5.size
   have HB5:=LH (bthen (HBw.out) hb5)
   have HSUB:Hid (SubAt w5 (fun g=>w.heap.size+2<=g/\g<w5.heap.size) (.slice sA re.sub.length sc) re.sub):=LH (hsub.more (fun g hg=>⟨Nat.le_trans (loh HC1.out) hg.1,hg.2⟩))
   clear hsub hb5 hok
   go_wp2_with fail
   refine bodyPost_ret (v:=.tuple #[.agg #[.string ⟨#[]⟩,.string ⟨#[]⟩,.bool false,.bool false,.string ⟨re.op.toArray⟩,.int .u16 re.n,.string ⟨re.name.toArray⟩,.slice sA re.sub.length sc],.int .i64 rk]) (by simp [results,Tryz.results68,go_sem,k0,k1,k2,k3,k4,k5,k6,k7,hH]) rfl ⟨_,rfl,?_,?_⟩
   ·exact (HSUB.out.set8 (b:=w.heap.size+1) (fun g hg=>by omega) _ _ _ _ _ _ _ _).newer (fun g hg=>by simpa using hg.2) (fun g hg=>⟨by omega,by simp;omega⟩) _
   ·exact (bset8 HB5.out (by omega) _ _ _ _ _ _ _ _).alloc (by simpa using HB5.out.size) _)
theorem oper_t (d:Int) (op:List UInt8) (tk:Int) (m:List UInt8) (n:Nat) (v:Value) (w:World) (hg:GWL w) (htk:tk=3) (hop:op≠sDB) (hok:okT [(tk,m,n)]) (hr:Rd w w.heap.size v 1 (tokRow [(tk,m,n)])) :
  Calls Tryz.prog 68 #[.agg #[v,.int .i64 d],.string ⟨op.toArray⟩] w (OperP w (⟨[],[],false,false,(allE [(tk,m,n)]).1⟩,(allE [(tk,m,n)]).2)):=by
 have HN:=LH (fun W (hW:Below w.heap.size w W)=>tname_any [(tk,m,n)] 0 (by omega) v W ((hr.below hW).more hW.size))
 have HW:=LH (fun W (hW:GWL W)=>word12_any d m W hW)
 have HP4:=LH (fun W (hW:Below w.heap.size w W)=>pair_any [(tk,m,n)] [40] [41] v W ((hr.below hW).more hW.size) (by simp))
 have HP9:=LH (fun W (hW:Below w.heap.size w W)=>pair_any [(tk,m,n)] [91] [93] v W ((hr.below hW).more hW.size) (by simp))
 rw [pairT_one] at HP4 HP9
 have HAll:=LH (fun W (hW:Below w.heap.size w W)=>all_any [(tk,m,n)] v W ((hr.below hW).more hW.size) (by simp) hok)
 generalize allE [(tk,m,n)]=out at *
 obtain ⟨re,rk⟩:=out
 obtain ⟨A,c,rfl,hc⟩:=hr.form
 obtain ⟨g,o,rfl,hgl,c0,c1,c2⟩:=hr.tok (ts:=[(tk,m,n)]) 0 (by simp)
 simp at c0 c1 c2
 have B0:=LH (((Below.refl w.heap.size w).alloc (Nat.le_refl _) (rdBox (.slice (some ⟨g,o,none⟩) 1 c) d)).alloc (by simp) arBox)
 have G0:=LH (hg.below B0.out)
 clear hr hok
 subst htk
 have o1:(op == [68,66])=false:=by simpa using hop
 rw [show nameT [(3,m,n)] (0:Int).toNat=false from rfl] at HN
 clear hop
 have hnew:=heap_alloc_new (w.alloc (rdBox (.slice (some ⟨g,o,none⟩) 1 c) d)) arBox
 rw [show (w.alloc (rdBox (.slice (some ⟨g,o,none⟩) 1 c) d)).heap.size=w.heap.size+1 by simp] at hnew
 have HC1:=LH hnew
 have HBw:=LH B0.out.drew
 clear hnew
 have key:d=1∨d=2∨((d == 1)=false/\(d == 2)=false):=by
  by_cases h1:d=1
  ·exact .inl h1
  ·by_cases h2:d=2
   ·exact .inr (.inl h2)
   ·exact .inr (.inr ⟨by simpa using h1,by simpa using h2⟩)
 rcases key with rfl | rfl | ⟨hd1,hd2⟩
 ·go_enter Tryz.func68, Tryz.ntmps68
  go_wp2_with fail
  go_quiet ((go_at_call 64;refine (HN.out _ (below_dn B0.out _)).mono ?_;rintro e w7 ⟨rfl,rfl⟩;exact ⟨rfl,_,rfl⟩))
  all_goals (
   go_wp2_with fail
   refine (HP4.out _ (below_dn B0.out _)).mono ?_
   rintro e w4 ⟨rfl,rfl⟩
   go_wp2_with fail
   refine (HAll.out _ (below_dn B0.out _)).mono ?_
   rintro e w5 ⟨vs,rfl,hsub,hok,hb5⟩
   obtain ⟨sA,sc,rfl,hsc,hsm⟩:=hsub.form
   obtain ⟨⟨k0,k1,k2,k3,k4,k5,k6,k7⟩,g0,g1,g2,g3,g4,g5,g6,g7⟩:=eight ((hb5.block _ (loh HC1.out)).trans HC1.out)
   have hH:w.heap.size+1<w5.heap.size:=Nat.lt_of_lt_of_le (loh HC1.out) hb5.size
   have HB5:=LH (bthen ((below_dn B0.out _)) hb5)
   have HSUB:Hid (SubAt w5 (fun g=>w.heap.size+2<=g/\g<w5.heap.size) (.slice sA re.sub.length sc) re.sub):=LH (hsub.more (fun g hg=>⟨Nat.le_trans (loh HC1.out) hg.1,hg.2⟩))
   clear hsub hb5 hok
   go_wp2_with fail
   refine bodyPost_ret (v:=.tuple #[.agg #[.string ⟨#[]⟩,.string ⟨#[]⟩,.bool false,.bool false,.string ⟨re.op.toArray⟩,.int .u16 re.n,.string ⟨re.name.toArray⟩,.slice sA re.sub.length sc],.int .i64 rk]) (by simp [results,Tryz.results68,go_sem,k0,k1,k2,k3,k4,k5,k6,k7,hH]) rfl ⟨_,rfl,?_,?_⟩
   ·exact (HSUB.out.set8 (b:=w.heap.size+1) (fun g hg=>by omega) _ _ _ _ _ _ _ _).newer (fun g hg=>by simpa using hg.2) (fun g hg=>⟨by omega,by simp;omega⟩) _
   ·exact (bset8 HB5.out (by omega) _ _ _ _ _ _ _ _).alloc (by simpa using HB5.out.size) _)
 ·go_enter Tryz.func68, Tryz.ntmps68
  go_wp2_with fail
  go_quiet ((go_at_call 64;refine (HN.out _ (below_dn B0.out _)).mono ?_;rintro e w7 ⟨rfl,rfl⟩;exact ⟨rfl,_,rfl⟩))
  all_goals (
   go_wp2_with fail
   refine (HP9.out _ (below_dn B0.out _)).mono ?_
   rintro e w4 ⟨rfl,rfl⟩
   go_wp2_with fail
   refine (HAll.out _ (below_dn B0.out _)).mono ?_
   rintro e w5 ⟨vs,rfl,hsub,hok,hb5⟩
   obtain ⟨sA,sc,rfl,hsc,hsm⟩:=hsub.form
   obtain ⟨⟨k0,k1,k2,k3,k4,k5,k6,k7⟩,g0,g1,g2,g3,g4,g5,g6,g7⟩:=eight ((hb5.block _ (loh HC1.out)).trans HC1.out)
   have hH:w.heap.size+1<w5.heap.size:=Nat.lt_of_lt_of_le (loh HC1.out) hb5.size
   have HB5:=LH (bthen ((below_dn B0.out _)) hb5)
   have HSUB:Hid (SubAt w5 (fun g=>w.heap.size+2<=g/\g<w5.heap.size) (.slice sA re.sub.length sc) re.sub):=LH (hsub.more (fun g hg=>⟨Nat.le_trans (loh HC1.out) hg.1,hg.2⟩))
   clear hsub hb5 hok
   go_wp2_with fail
   refine bodyPost_ret (v:=.tuple #[.agg #[.string ⟨#[]⟩,.string ⟨#[]⟩,.bool false,.bool false,.string ⟨re.op.toArray⟩,.int .u16 re.n,.string ⟨re.name.toArray⟩,.slice sA re.sub.length sc],.int .i64 rk]) (by simp [results,Tryz.results68,go_sem,k0,k1,k2,k3,k4,k5,k6,k7,hH]) rfl ⟨_,rfl,?_,?_⟩
   ·exact (HSUB.out.set8 (b:=w.heap.size+1) (fun g hg=>by omega) _ _ _ _ _ _ _ _).newer (fun g hg=>by simpa using hg.2) (fun g hg=>⟨by omega,by simp;omega⟩) _
   ·exact (bset8 HB5.out (by omega) _ _ _ _ _ _ _ _).alloc (by simpa using HB5.out.size) _)
 ·go_enter Tryz.func68, Tryz.ntmps68
  go_wp2_with fail
  go_quiet ((go_at_call 64;refine (HN.out _ (below_dn B0.out _)).mono ?_;rintro e w7 ⟨rfl,rfl⟩;exact ⟨rfl,_,rfl⟩))
  all_goals (
   go_wp2_with fail
   refine (HAll.out _ (below_dn B0.out _)).mono ?_
   rintro e w5 ⟨vs,rfl,hsub,hok,hb5⟩
   obtain ⟨sA,sc,rfl,hsc,hsm⟩:=hsub.form
   obtain ⟨⟨k0,k1,k2,k3,k4,k5,k6,k7⟩,g0,g1,g2,g3,g4,g5,g6,g7⟩:=eight ((hb5.block _ (loh HC1.out)).trans HC1.out)
   have hH:w.heap.size+1<w5.heap.size:=Nat.lt_of_lt_of_le (loh HC1.out) hb5.size
   have HB5:=LH (bthen ((below_dn B0.out _)) hb5)
   have HSUB:Hid (SubAt w5 (fun g=>w.heap.size+2<=g/\g<w5.heap.size) (.slice sA re.sub.length sc) re.sub):=LH (hsub.more (fun g hg=>⟨Nat.le_trans (loh HC1.out) hg.1,hg.2⟩))
   clear hsub hb5 hok
   go_wp2_with fail
   refine bodyPost_ret (v:=.tuple #[.agg #[.string ⟨#[]⟩,.string ⟨#[]⟩,.bool false,.bool false,.string ⟨re.op.toArray⟩,.int .u16 re.n,.string ⟨re.name.toArray⟩,.slice sA re.sub.length sc],.int .i64 rk]) (by simp [results,Tryz.results68,go_sem,k0,k1,k2,k3,k4,k5,k6,k7,hH]) rfl ⟨_,rfl,?_,?_⟩
   ·exact (HSUB.out.set8 (b:=w.heap.size+1) (fun g hg=>by omega) _ _ _ _ _ _ _ _).newer (fun g hg=>by simpa using hg.2) (fun g hg=>⟨by omega,by simp;omega⟩) _
   ·exact (bset8 HB5.out (by omega) _ _ _ _ _ _ _ _).alloc (by simpa using HB5.out.size) _)
theorem oper_x (d:Int) (op:List UInt8) (tk:Int) (m:List UInt8) (n:Nat) (v:Value) (w:World) (hg:GWL w) (h1:tk≠1) (h3:tk≠3) (hok:okT [(tk,m,n)]) (hr:Rd w w.heap.size v 1 (tokRow [(tk,m,n)])) :
  Calls Tryz.prog 68 #[.agg #[v,.int .i64 d],.string ⟨op.toArray⟩] w (OperP w (⟨[],[],false,false,(allE [(tk,m,n)]).1⟩,(allE [(tk,m,n)]).2)):=by
 have HN:=LH (fun W (hW:Below w.heap.size w W)=>tname_any [(tk,m,n)] 0 (by omega) v W ((hr.below hW).more hW.size))
 have HW:=LH (fun W (hW:GWL W)=>word12_any d m W hW)
 have HP4:=LH (fun W (hW:Below w.heap.size w W)=>pair_any [(tk,m,n)] [40] [41] v W ((hr.below hW).more hW.size) (by simp))
 have HP9:=LH (fun W (hW:Below w.heap.size w W)=>pair_any [(tk,m,n)] [91] [93] v W ((hr.below hW).more hW.size) (by simp))
 rw [pairT_one] at HP4 HP9
 have HAll:=LH (fun W (hW:Below w.heap.size w W)=>all_any [(tk,m,n)] v W ((hr.below hW).more hW.size) (by simp) hok)
 generalize allE [(tk,m,n)]=out at *
 obtain ⟨re,rk⟩:=out
 obtain ⟨A,c,rfl,hc⟩:=hr.form
 obtain ⟨g,o,rfl,hgl,c0,c1,c2⟩:=hr.tok (ts:=[(tk,m,n)]) 0 (by simp)
 simp at c0 c1 c2
 have B0:=LH (((Below.refl w.heap.size w).alloc (Nat.le_refl _) (rdBox (.slice (some ⟨g,o,none⟩) 1 c) d)).alloc (by simp) arBox)
 have G0:=LH (hg.below B0.out)
 clear hr hok
 have o3:(tk == 3)=false:=by simpa using h3
 rw [show nameT [(tk,m,n)] (0:Int).toNat=false by simp [nameT,h1]] at HN
 clear h1 h3
 have hnew:=heap_alloc_new (w.alloc (rdBox (.slice (some ⟨g,o,none⟩) 1 c) d)) arBox
 rw [show (w.alloc (rdBox (.slice (some ⟨g,o,none⟩) 1 c) d)).heap.size=w.heap.size+1 by simp] at hnew
 have HC1:=LH hnew
 have HBw:=LH B0.out.drew
 clear hnew
 have key:d=1∨d=2∨((d == 1)=false/\(d == 2)=false):=by
  by_cases h1:d=1
  ·exact .inl h1
  ·by_cases h2:d=2
   ·exact .inr (.inl h2)
   ·exact .inr (.inr ⟨by simpa using h1,by simpa using h2⟩)
 rcases key with rfl | rfl | ⟨hd1,hd2⟩
 ·go_enter Tryz.func68, Tryz.ntmps68
  go_wp2_with fail
  go_quiet ((go_at_call 64;refine (HN.out _ (below_dn B0.out _)).mono ?_;rintro e w7 ⟨rfl,rfl⟩;exact ⟨rfl,_,rfl⟩))
  all_goals (
   go_wp2_with fail
   refine (HP4.out _ (below_dn B0.out _)).mono ?_
   rintro e w4 ⟨rfl,rfl⟩
   go_wp2_with fail
   refine (HAll.out _ (below_dn B0.out _)).mono ?_
   rintro e w5 ⟨vs,rfl,hsub,hok,hb5⟩
   obtain ⟨sA,sc,rfl,hsc,hsm⟩:=hsub.form
   obtain ⟨⟨k0,k1,k2,k3,k4,k5,k6,k7⟩,g0,g1,g2,g3,g4,g5,g6,g7⟩:=eight ((hb5.block _ (loh HC1.out)).trans HC1.out)
   have hH:w.heap.size+1<w5.heap.size:=Nat.lt_of_lt_of_le (loh HC1.out) hb5.size
   have HB5:=LH (bthen ((below_dn B0.out _)) hb5)
   have HSUB:Hid (SubAt w5 (fun g=>w.heap.size+2<=g/\g<w5.heap.size) (.slice sA re.sub.length sc) re.sub):=LH (hsub.more (fun g hg=>⟨Nat.le_trans (loh HC1.out) hg.1,hg.2⟩))
   clear hsub hb5 hok
   go_wp2_with fail
   refine bodyPost_ret (v:=.tuple #[.agg #[.string ⟨#[]⟩,.string ⟨#[]⟩,.bool false,.bool false,.string ⟨re.op.toArray⟩,.int .u16 re.n,.string ⟨re.name.toArray⟩,.slice sA re.sub.length sc],.int .i64 rk]) (by simp [results,Tryz.results68,go_sem,k0,k1,k2,k3,k4,k5,k6,k7,hH]) rfl ⟨_,rfl,?_,?_⟩
   ·exact (HSUB.out.set8 (b:=w.heap.size+1) (fun g hg=>by omega) _ _ _ _ _ _ _ _).newer (fun g hg=>by simpa using hg.2) (fun g hg=>⟨by omega,by simp;omega⟩) _
   ·exact (bset8 HB5.out (by omega) _ _ _ _ _ _ _ _).alloc (by simpa using HB5.out.size) _)
 ·go_enter Tryz.func68, Tryz.ntmps68
  go_wp2_with fail
  go_quiet ((go_at_call 64;refine (HN.out _ (below_dn B0.out _)).mono ?_;rintro e w7 ⟨rfl,rfl⟩;exact ⟨rfl,_,rfl⟩))
  all_goals (
   go_wp2_with fail
   refine (HP9.out _ (below_dn B0.out _)).mono ?_
   rintro e w4 ⟨rfl,rfl⟩
   go_wp2_with fail
   refine (HAll.out _ (below_dn B0.out _)).mono ?_
   rintro e w5 ⟨vs,rfl,hsub,hok,hb5⟩
   obtain ⟨sA,sc,rfl,hsc,hsm⟩:=hsub.form
   obtain ⟨⟨k0,k1,k2,k3,k4,k5,k6,k7⟩,g0,g1,g2,g3,g4,g5,g6,g7⟩:=eight ((hb5.block _ (loh HC1.out)).trans HC1.out)
   have hH:w.heap.size+1<w5.heap.size:=Nat.lt_of_lt_of_le (loh HC1.out) hb5.size
   have HB5:=LH (bthen ((below_dn B0.out _)) hb5)
   have HSUB:Hid (SubAt w5 (fun g=>w.heap.size+2<=g/\g<w5.heap.size) (.slice sA re.sub.length sc) re.sub):=LH (hsub.more (fun g hg=>⟨Nat.le_trans (loh HC1.out) hg.1,hg.2⟩))
   clear hsub hb5 hok
   go_wp2_with fail
   refine bodyPost_ret (v:=.tuple #[.agg #[.string ⟨#[]⟩,.string ⟨#[]⟩,.bool false,.bool false,.string ⟨re.op.toArray⟩,.int .u16 re.n,.string ⟨re.name.toArray⟩,.slice sA re.sub.length sc],.int .i64 rk]) (by simp [results,Tryz.results68,go_sem,k0,k1,k2,k3,k4,k5,k6,k7,hH]) rfl ⟨_,rfl,?_,?_⟩
   ·exact (HSUB.out.set8 (b:=w.heap.size+1) (fun g hg=>by omega) _ _ _ _ _ _ _ _).newer (fun g hg=>by simpa using hg.2) (fun g hg=>⟨by omega,by simp;omega⟩) _
   ·exact (bset8 HB5.out (by omega) _ _ _ _ _ _ _ _).alloc (by simpa using HB5.out.size) _)
 ·go_enter Tryz.func68, Tryz.ntmps68
  go_wp2_with fail
  go_quiet ((go_at_call 64;refine (HN.out _ (below_dn B0.out _)).mono ?_;rintro e w7 ⟨rfl,rfl⟩;exact ⟨rfl,_,rfl⟩))
  all_goals (
   go_wp2_with fail
   refine (HAll.out _ (below_dn B0.out _)).mono ?_
   rintro e w5 ⟨vs,rfl,hsub,hok,hb5⟩
   obtain ⟨sA,sc,rfl,hsc,hsm⟩:=hsub.form
   obtain ⟨⟨k0,k1,k2,k3,k4,k5,k6,k7⟩,g0,g1,g2,g3,g4,g5,g6,g7⟩:=eight ((hb5.block _ (loh HC1.out)).trans HC1.out)
   have hH:w.heap.size+1<w5.heap.size:=Nat.lt_of_lt_of_le (loh HC1.out) hb5.size
   have HB5:=LH (bthen ((below_dn B0.out _)) hb5)
   have HSUB:Hid (SubAt w5 (fun g=>w.heap.size+2<=g/\g<w5.heap.size) (.slice sA re.sub.length sc) re.sub):=LH (hsub.more (fun g hg=>⟨Nat.le_trans (loh HC1.out) hg.1,hg.2⟩))
   clear hsub hb5 hok
   go_wp2_with fail
   refine bodyPost_ret (v:=.tuple #[.agg #[.string ⟨#[]⟩,.string ⟨#[]⟩,.bool false,.bool false,.string ⟨re.op.toArray⟩,.int .u16 re.n,.string ⟨re.name.toArray⟩,.slice sA re.sub.length sc],.int .i64 rk]) (by simp [results,Tryz.results68,go_sem,k0,k1,k2,k3,k4,k5,k6,k7,hH]) rfl ⟨_,rfl,?_,?_⟩
   ·exact (HSUB.out.set8 (b:=w.heap.size+1) (fun g hg=>by omega) _ _ _ _ _ _ _ _).newer (fun g hg=>by simpa using hg.2) (fun g hg=>⟨by omega,by simp;omega⟩) _
   ·exact (bset8 HB5.out (by omega) _ _ _ _ _ _ _ _).alloc (by simpa using HB5.out.size) _)
end Go.Proofs.YtbdnbfacalfciaaGreatDoor
