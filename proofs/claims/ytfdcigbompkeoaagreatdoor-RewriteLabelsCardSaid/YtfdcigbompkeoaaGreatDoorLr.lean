/- Lr. -/
import Derived.Test.YtfdcigbompkeoaaGreatDoorKo
namespace Go.Proofs.YtfdcigbompkeoaaGreatDoor
set_option maxRecDepth 100000
set_option maxHeartbeats 4000000
open Go.RowKit
theorem Right12_u (d:Int) (lab:List UInt8) (colon:Bool) (op:List UInt8) (args:List Ar) (v:Value) (w:World) (hg:GWL w) (hf:fitS ⟨lab,colon,op,args⟩) (hs:ArAt w (· < w.heap.size) v args) (hk:knownB d=false) :
  Calls Tryz.prog 16 #[.int .i64 d,.agg #[.string ⟨lab.toArray⟩,.bool colon,.string ⟨op.toArray⟩,v]] w fun e w'=>e=.returned (.int .i64 1)/\Below w.heap.size w w':=by
 have HKn:=LH (fun W=>known_any d W)
 have HPl:=LH (fun W (hW:GWL W)=>Plain_any d lab W (by have:=hf.1;simp only at this;omega) hW)
 have HGr:=LH (fun W=>great_any op W (by have:=hf.2.1;simp only at this;omega))
 have HSe:=LH (fun W=>sets_any op W)
 have HCo:=LH (fun bd bs W (hW:Below w.heap.size w W) h1 h2=>acont_any d op args v bd bs W (hg.below hW) hf.2.2 (hs.at hW hW.size) h1 h2)
 obtain ⟨A,c,rfl,hc,hm⟩:=hs.form
 unfold maxLen at hm
 clear hs hf
 rw [hk] at HKn
 go_enter Tryz.func16, Tryz.ntmps16
 go_wp2_with fail
 refine (HKn.out _).mono ?_
 rintro e w0 ⟨rfl,rfl⟩
 go_wp2_with fail
 go_ret
 exact ⟨rfl,((Below.refl _ _).alloc (Nat.le_refl _) _).alloc (by simp) _⟩
theorem Right12_a2 (d:Int) (lab:List UInt8) (colon:Bool) (op:List UInt8) (args:List Ar) (v:Value) (w:World) (hg:GWL w) (hf:fitS ⟨lab,colon,op,args⟩) (hs:ArAt w (· < w.heap.size) v args) (hk:knownB d=true) (hl:lab = []) (ho:op = []) (ha:args≠[]) :
  Calls Tryz.prog 16 #[.int .i64 d,.agg #[.string ⟨lab.toArray⟩,.bool colon,.string ⟨op.toArray⟩,v]] w fun e w'=>e=.returned (.int .i64 2)/\Below w.heap.size w w':=by
 have HKn:=LH (fun W=>known_any d W)
 have HPl:=LH (fun W (hW:GWL W)=>Plain_any d lab W (by have:=hf.1;simp only at this;omega) hW)
 have HGr:=LH (fun W=>great_any op W (by have:=hf.2.1;simp only at this;omega))
 have HSe:=LH (fun W=>sets_any op W)
 have HCo:=LH (fun bd bs W (hW:Below w.heap.size w W) h1 h2=>acont_any d op args v bd bs W (hg.below hW) hf.2.2 (hs.at hW hW.size) h1 h2)
 obtain ⟨A,c,rfl,hc,hm⟩:=hs.form
 unfold maxLen at hm
 clear hs hf
 rw [hk] at HKn
 subst hl
 subst ho
 have a1:0<args.length:=List.length_pos_iff.2 ha
 clear hk ha
 go_enter Tryz.func16, Tryz.ntmps16
 go_wp2_with fail
 refine (HKn.out _).mono ?_
 rintro e w0 ⟨rfl,rfl⟩
 go_wp2_with fail
 go_ret
 exact ⟨rfl,((Below.refl _ _).alloc (Nat.le_refl _) _).alloc (by simp) _⟩
theorem Right12_a3 (d:Int) (lab:List UInt8) (colon:Bool) (op:List UInt8) (args:List Ar) (v:Value) (w:World) (hg:GWL w) (hf:fitS ⟨lab,colon,op,args⟩) (hs:ArAt w (· < w.heap.size) v args) (hk:knownB d=true) (hl:lab = []) (ho:op = []) (ha:args = []) (hcl:colon=true) :
  Calls Tryz.prog 16 #[.int .i64 d,.agg #[.string ⟨lab.toArray⟩,.bool colon,.string ⟨op.toArray⟩,v]] w fun e w'=>e=.returned (.int .i64 2)/\Below w.heap.size w w':=by
 have HKn:=LH (fun W=>known_any d W)
 have HPl:=LH (fun W (hW:GWL W)=>Plain_any d lab W (by have:=hf.1;simp only at this;omega) hW)
 have HGr:=LH (fun W=>great_any op W (by have:=hf.2.1;simp only at this;omega))
 have HSe:=LH (fun W=>sets_any op W)
 have HCo:=LH (fun bd bs W (hW:Below w.heap.size w W) h1 h2=>acont_any d op args v bd bs W (hg.below hW) hf.2.2 (hs.at hW hW.size) h1 h2)
 obtain ⟨A,c,rfl,hc,hm⟩:=hs.form
 unfold maxLen at hm
 clear hs hf
 rw [hk] at HKn
 subst hl
 subst ho
 subst ha
 simp only [List.length_nil] at *
 subst hcl
 rw [show setsB []=false by decide] at HSe
 clear hk
 go_enter Tryz.func16, Tryz.ntmps16
 go_wp2_with fail
 refine (HKn.out _).mono ?_
 rintro e w0 ⟨rfl,rfl⟩
 go_wp2_with fail
 refine (HSe.out _).mono ?_
 rintro e w1 ⟨rfl,hb1⟩
 obtain ⟨C0,C1,BB⟩:=boxes hb1
 have HC1:=LH C0
 have HD1:=LH C1
 have HB1:=LH BB
 clear C0 C1 BB hb1
 have d0:=coh (i:=0) HC1.out
 simp at d0
 obtain ⟨s0,s1,s2,s3⟩:=cells4 HD1.out
 go_wp2_with fail
 first | (go_region_with fail) | fail
 all_goals (
  go_wp2_with fail
  go_ret
  exact ⟨rfl,(HB1.out).drew⟩)
theorem Right12_a4 (d:Int) (lab:List UInt8) (colon:Bool) (op:List UInt8) (args:List Ar) (v:Value) (w:World) (hg:GWL w) (hf:fitS ⟨lab,colon,op,args⟩) (hs:ArAt w (· < w.heap.size) v args) (hk:knownB d=true) (hl:lab = []) (ho:op = []) (ha:args = []) (hcl:colon=false) :
  Calls Tryz.prog 16 #[.int .i64 d,.agg #[.string ⟨lab.toArray⟩,.bool colon,.string ⟨op.toArray⟩,v]] w fun e w'=>e=.returned (.int .i64 0)/\Below w.heap.size w w':=by
 have HKn:=LH (fun W=>known_any d W)
 have HPl:=LH (fun W (hW:GWL W)=>Plain_any d lab W (by have:=hf.1;simp only at this;omega) hW)
 have HGr:=LH (fun W=>great_any op W (by have:=hf.2.1;simp only at this;omega))
 have HSe:=LH (fun W=>sets_any op W)
 have HCo:=LH (fun bd bs W (hW:Below w.heap.size w W) h1 h2=>acont_any d op args v bd bs W (hg.below hW) hf.2.2 (hs.at hW hW.size) h1 h2)
 obtain ⟨A,c,rfl,hc,hm⟩:=hs.form
 unfold maxLen at hm
 clear hs hf
 rw [hk] at HKn
 subst hl
 subst ho
 subst ha
 simp only [List.length_nil] at *
 subst hcl
 rw [show setsB []=false by decide] at HSe
 simp only [List.all_nil,Bool.not_true] at HCo
 clear hk
 go_enter Tryz.func16, Tryz.ntmps16
 go_wp2_with fail
 refine (HKn.out _).mono ?_
 rintro e w0 ⟨rfl,rfl⟩
 go_wp2_with fail
 refine (HSe.out _).mono ?_
 rintro e w1 ⟨rfl,hb1⟩
 obtain ⟨C0,C1,BB⟩:=boxes hb1
 have HC1:=LH C0
 have HD1:=LH C1
 have HB1:=LH BB
 clear C0 C1 BB hb1
 have d0:=coh (i:=0) HC1.out
 simp at d0
 obtain ⟨s0,s1,s2,s3⟩:=cells4 HD1.out
 go_wp2_with fail
 first | (go_region_with fail) | fail
 all_goals (
  go_wp2_with fail
  refine (HCo.out _ _ _ HB1.out.drew (by simpa using d0) (by simpa using s2)).mono ?_
  rintro e w9 ⟨rfl,hb9⟩
  go_wp2_with fail
  go_ret
  exact ⟨rfl,bthen HB1.out.drew hb9⟩)
theorem Right12_a5 (d:Int) (lab:List UInt8) (colon:Bool) (op:List UInt8) (args:List Ar) (v:Value) (w:World) (hg:GWL w) (hf:fitS ⟨lab,colon,op,args⟩) (hs:ArAt w (· < w.heap.size) v args) (hk:knownB d=true) (hl:lab = []) (ho:op≠[]) (hgr:greatB op=false) :
  Calls Tryz.prog 16 #[.int .i64 d,.agg #[.string ⟨lab.toArray⟩,.bool colon,.string ⟨op.toArray⟩,v]] w fun e w'=>e=.returned (.int .i64 2)/\Below w.heap.size w w':=by
 have HKn:=LH (fun W=>known_any d W)
 have HPl:=LH (fun W (hW:GWL W)=>Plain_any d lab W (by have:=hf.1;simp only at this;omega) hW)
 have HGr:=LH (fun W=>great_any op W (by have:=hf.2.1;simp only at this;omega))
 have HSe:=LH (fun W=>sets_any op W)
 have HCo:=LH (fun bd bs W (hW:Below w.heap.size w W) h1 h2=>acont_any d op args v bd bs W (hg.below hW) hf.2.2 (hs.at hW hW.size) h1 h2)
 obtain ⟨A,c,rfl,hc,hm⟩:=hs.form
 unfold maxLen at hm
 clear hs hf
 rw [hk] at HKn
 subst hl
 have o1:(op == [])=false:=by simpa using ho
 have o2:op.isEmpty=false:=by simpa using ho
 rw [hgr] at HGr
 clear hk hgr ho
 go_enter Tryz.func16, Tryz.ntmps16
 go_wp2_with fail
 refine (HKn.out _).mono ?_
 rintro e w0 ⟨rfl,rfl⟩
 go_wp2_with fail
 refine (HGr.out _).mono ?_
 rintro e w1 ⟨rfl,hb1⟩
 obtain ⟨C0,C1,BB⟩:=boxes hb1
 have HC1:=LH C0
 have HD1:=LH C1
 have HB1:=LH BB
 clear C0 C1 BB hb1
 have d0:=coh (i:=0) HC1.out
 simp at d0
 obtain ⟨s0,s1,s2,s3⟩:=cells4 HD1.out
 go_wp2_with fail
 go_ret
 exact ⟨rfl,HB1.out⟩
theorem Right12_a6 (d:Int) (lab:List UInt8) (colon:Bool) (op:List UInt8) (args:List Ar) (v:Value) (w:World) (hg:GWL w) (hf:fitS ⟨lab,colon,op,args⟩) (hs:ArAt w (· < w.heap.size) v args) (hk:knownB d=true) (hl:lab = []) (ho:op≠[]) (hgr:greatB op=true) (hse:setsB op=true) :
  Calls Tryz.prog 16 #[.int .i64 d,.agg #[.string ⟨lab.toArray⟩,.bool colon,.string ⟨op.toArray⟩,v]] w fun e w'=>e=.returned (.int .i64 2)/\Below w.heap.size w w':=by
 have HKn:=LH (fun W=>known_any d W)
 have HPl:=LH (fun W (hW:GWL W)=>Plain_any d lab W (by have:=hf.1;simp only at this;omega) hW)
 have HGr:=LH (fun W=>great_any op W (by have:=hf.2.1;simp only at this;omega))
 have HSe:=LH (fun W=>sets_any op W)
 have HCo:=LH (fun bd bs W (hW:Below w.heap.size w W) h1 h2=>acont_any d op args v bd bs W (hg.below hW) hf.2.2 (hs.at hW hW.size) h1 h2)
 obtain ⟨A,c,rfl,hc,hm⟩:=hs.form
 unfold maxLen at hm
 clear hs hf
 rw [hk] at HKn
 subst hl
 have o1:(op == [])=false:=by simpa using ho
 have o2:op.isEmpty=false:=by simpa using ho
 rw [hgr] at HGr
 rw [hse] at HSe
 clear hk hgr ho hse
 go_enter Tryz.func16, Tryz.ntmps16
 go_wp2_with fail
 refine (HKn.out _).mono ?_
 rintro e w0 ⟨rfl,rfl⟩
 go_wp2_with fail
 refine (HGr.out _).mono ?_
 rintro e w1 ⟨rfl,hb1⟩
 obtain ⟨C0,C1,BB⟩:=boxes hb1
 have HC1:=LH C0
 have HD1:=LH C1
 have HB1:=LH BB
 clear C0 C1 BB hb1
 have d0:=coh (i:=0) HC1.out
 simp at d0
 obtain ⟨s0,s1,s2,s3⟩:=cells4 HD1.out
 go_wp2_with fail
 refine (HSe.out _).mono ?_
 rintro e w2 ⟨rfl,hb2⟩
 have C0:=(hb2.block _ (loh HC1.out)).trans HC1.out
 have C1:=(hb2.block _ (loh HD1.out)).trans HD1.out
 have BB:=bthen HB1.out hb2
 have HC2:=LH C0
 have HD2:=LH C1
 have HB2:=LH BB
 clear C0 C1 BB hb2 d0 s0 s1 s2 s3
 have d0:=coh (i:=0) HC2.out
 simp at d0
 obtain ⟨s0,s1,s2,s3⟩:=cells4 HD2.out
 go_wp2_with fail
 go_ret
 exact ⟨rfl,HB2.out⟩
theorem Right12_a7 (d:Int) (lab:List UInt8) (colon:Bool) (op:List UInt8) (args:List Ar) (v:Value) (w:World) (hg:GWL w) (hf:fitS ⟨lab,colon,op,args⟩) (hs:ArAt w (· < w.heap.size) v args) (hk:knownB d=true) (hl:lab = []) (ho:op≠[]) (hgr:greatB op=true) (hse:setsB op=false) (hcl:colon=true) :
  Calls Tryz.prog 16 #[.int .i64 d,.agg #[.string ⟨lab.toArray⟩,.bool colon,.string ⟨op.toArray⟩,v]] w fun e w'=>e=.returned (.int .i64 2)/\Below w.heap.size w w':=by
 have HKn:=LH (fun W=>known_any d W)
 have HPl:=LH (fun W (hW:GWL W)=>Plain_any d lab W (by have:=hf.1;simp only at this;omega) hW)
 have HGr:=LH (fun W=>great_any op W (by have:=hf.2.1;simp only at this;omega))
 have HSe:=LH (fun W=>sets_any op W)
 have HCo:=LH (fun bd bs W (hW:Below w.heap.size w W) h1 h2=>acont_any d op args v bd bs W (hg.below hW) hf.2.2 (hs.at hW hW.size) h1 h2)
 obtain ⟨A,c,rfl,hc,hm⟩:=hs.form
 unfold maxLen at hm
 clear hs hf
 rw [hk] at HKn
 subst hl
 have o1:(op == [])=false:=by simpa using ho
 have o2:op.isEmpty=false:=by simpa using ho
 rw [hgr] at HGr
 rw [hse] at HSe
 subst hcl
 clear hk hgr ho hse
 go_enter Tryz.func16, Tryz.ntmps16
 go_wp2_with fail
 refine (HKn.out _).mono ?_
 rintro e w0 ⟨rfl,rfl⟩
 go_wp2_with fail
 refine (HGr.out _).mono ?_
 rintro e w1 ⟨rfl,hb1⟩
 obtain ⟨C0,C1,BB⟩:=boxes hb1
 have HC1:=LH C0
 have HD1:=LH C1
 have HB1:=LH BB
 clear C0 C1 BB hb1
 have d0:=coh (i:=0) HC1.out
 simp at d0
 obtain ⟨s0,s1,s2,s3⟩:=cells4 HD1.out
 go_wp2_with fail
 refine (HSe.out _).mono ?_
 rintro e w2 ⟨rfl,hb2⟩
 have C0:=(hb2.block _ (loh HC1.out)).trans HC1.out
 have C1:=(hb2.block _ (loh HD1.out)).trans HD1.out
 have BB:=bthen HB1.out hb2
 have HC2:=LH C0
 have HD2:=LH C1
 have HB2:=LH BB
 clear C0 C1 BB hb2 d0 s0 s1 s2 s3
 have d0:=coh (i:=0) HC2.out
 simp at d0
 obtain ⟨s0,s1,s2,s3⟩:=cells4 HD2.out
 go_wp2_with fail
 first | (go_region_with fail) | fail
 all_goals (
  go_wp2_with fail
  go_ret
  exact ⟨rfl,(HB2.out).drew⟩)
theorem Right12_a8 (d:Int) (lab:List UInt8) (colon:Bool) (op:List UInt8) (args:List Ar) (v:Value) (w:World) (hg:GWL w) (hf:fitS ⟨lab,colon,op,args⟩) (hs:ArAt w (· < w.heap.size) v args) (hk:knownB d=true) (hl:lab = []) (ho:op≠[]) (hgr:greatB op=true) (hse:setsB op=false) (hcl:colon=false) (hn:32<args.length) :
  Calls Tryz.prog 16 #[.int .i64 d,.agg #[.string ⟨lab.toArray⟩,.bool colon,.string ⟨op.toArray⟩,v]] w fun e w'=>e=.returned (.int .i64 2)/\Below w.heap.size w w':=by
 have HKn:=LH (fun W=>known_any d W)
 have HPl:=LH (fun W (hW:GWL W)=>Plain_any d lab W (by have:=hf.1;simp only at this;omega) hW)
 have HGr:=LH (fun W=>great_any op W (by have:=hf.2.1;simp only at this;omega))
 have HSe:=LH (fun W=>sets_any op W)
 have HCo:=LH (fun bd bs W (hW:Below w.heap.size w W) h1 h2=>acont_any d op args v bd bs W (hg.below hW) hf.2.2 (hs.at hW hW.size) h1 h2)
 obtain ⟨A,c,rfl,hc,hm⟩:=hs.form
 unfold maxLen at hm
 clear hs hf
 rw [hk] at HKn
 subst hl
 have o1:(op == [])=false:=by simpa using ho
 have o2:op.isEmpty=false:=by simpa using ho
 rw [hgr] at HGr
 rw [hse] at HSe
 subst hcl
 clear hk hgr ho hse
 go_enter Tryz.func16, Tryz.ntmps16
 go_wp2_with fail
 refine (HKn.out _).mono ?_
 rintro e w0 ⟨rfl,rfl⟩
 go_wp2_with fail
 refine (HGr.out _).mono ?_
 rintro e w1 ⟨rfl,hb1⟩
 obtain ⟨C0,C1,BB⟩:=boxes hb1
 have HC1:=LH C0
 have HD1:=LH C1
 have HB1:=LH BB
 clear C0 C1 BB hb1
 have d0:=coh (i:=0) HC1.out
 simp at d0
 obtain ⟨s0,s1,s2,s3⟩:=cells4 HD1.out
 go_wp2_with fail
 refine (HSe.out _).mono ?_
 rintro e w2 ⟨rfl,hb2⟩
 have C0:=(hb2.block _ (loh HC1.out)).trans HC1.out
 have C1:=(hb2.block _ (loh HD1.out)).trans HD1.out
 have BB:=bthen HB1.out hb2
 have HC2:=LH C0
 have HD2:=LH C1
 have HB2:=LH BB
 clear C0 C1 BB hb2 d0 s0 s1 s2 s3
 have d0:=coh (i:=0) HC2.out
 simp at d0
 obtain ⟨s0,s1,s2,s3⟩:=cells4 HD2.out
 go_wp2_with fail
 first | (go_region_with fail) | fail
 all_goals (
  go_wp2_with fail
  go_ret
  exact ⟨rfl,(HB2.out).drew⟩)
theorem Right12_a9t (d:Int) (lab:List UInt8) (colon:Bool) (op:List UInt8) (args:List Ar) (v:Value) (w:World) (hg:GWL w) (hf:fitS ⟨lab,colon,op,args⟩) (hs:ArAt w (· < w.heap.size) v args) (hk:knownB d=true) (hl:lab = []) (ho:op≠[]) (hgr:greatB op=true) (hse:setsB op=false) (hcl:colon=false) (hn:args.length<=32) (hal:args.all (rightA d op)=true) :
  Calls Tryz.prog 16 #[.int .i64 d,.agg #[.string ⟨lab.toArray⟩,.bool colon,.string ⟨op.toArray⟩,v]] w fun e w'=>e=.returned (.int .i64 0)/\Below w.heap.size w w':=by
 have HKn:=LH (fun W=>known_any d W)
 have HPl:=LH (fun W (hW:GWL W)=>Plain_any d lab W (by have:=hf.1;simp only at this;omega) hW)
 have HGr:=LH (fun W=>great_any op W (by have:=hf.2.1;simp only at this;omega))
 have HSe:=LH (fun W=>sets_any op W)
 have HCo:=LH (fun bd bs W (hW:Below w.heap.size w W) h1 h2=>acont_any d op args v bd bs W (hg.below hW) hf.2.2 (hs.at hW hW.size) h1 h2)
 obtain ⟨A,c,rfl,hc,hm⟩:=hs.form
 unfold maxLen at hm
 clear hs hf
 rw [hk] at HKn
 subst hl
 have o1:(op == [])=false:=by simpa using ho
 have o2:op.isEmpty=false:=by simpa using ho
 rw [hgr] at HGr
 rw [hse] at HSe
 rw [hal] at HCo
 simp only [Bool.not_true] at HCo
 subst hcl
 clear hk hgr ho hse hal
 go_enter Tryz.func16, Tryz.ntmps16
 go_wp2_with fail
 refine (HKn.out _).mono ?_
 rintro e w0 ⟨rfl,rfl⟩
 go_wp2_with fail
 refine (HGr.out _).mono ?_
 rintro e w1 ⟨rfl,hb1⟩
 obtain ⟨C0,C1,BB⟩:=boxes hb1
 have HC1:=LH C0
 have HD1:=LH C1
 have HB1:=LH BB
 clear C0 C1 BB hb1
 have d0:=coh (i:=0) HC1.out
 simp at d0
 obtain ⟨s0,s1,s2,s3⟩:=cells4 HD1.out
 go_wp2_with fail
 refine (HSe.out _).mono ?_
 rintro e w2 ⟨rfl,hb2⟩
 have C0:=(hb2.block _ (loh HC1.out)).trans HC1.out
 have C1:=(hb2.block _ (loh HD1.out)).trans HD1.out
 have BB:=bthen HB1.out hb2
 have HC2:=LH C0
 have HD2:=LH C1
 have HB2:=LH BB
 clear C0 C1 BB hb2 d0 s0 s1 s2 s3
 have d0:=coh (i:=0) HC2.out
 simp at d0
 obtain ⟨s0,s1,s2,s3⟩:=cells4 HD2.out
 go_wp2_with fail
 first | (go_region_with fail) | fail
 all_goals (
  go_wp2_with fail
  refine (HCo.out _ _ _ HB2.out.drew (by simpa using d0) (by simpa using s2)).mono ?_
  rintro e w9 ⟨rfl,hb9⟩
  go_wp2_with fail
  go_ret
  exact ⟨rfl,bthen HB2.out.drew hb9⟩)
theorem Right12_a9f (d:Int) (lab:List UInt8) (colon:Bool) (op:List UInt8) (args:List Ar) (v:Value) (w:World) (hg:GWL w) (hf:fitS ⟨lab,colon,op,args⟩) (hs:ArAt w (· < w.heap.size) v args) (hk:knownB d=true) (hl:lab = []) (ho:op≠[]) (hgr:greatB op=true) (hse:setsB op=false) (hcl:colon=false) (hn:args.length<=32) (hal:args.all (rightA d op)=false) :
  Calls Tryz.prog 16 #[.int .i64 d,.agg #[.string ⟨lab.toArray⟩,.bool colon,.string ⟨op.toArray⟩,v]] w fun e w'=>e=.returned (.int .i64 2)/\Below w.heap.size w w':=by
 have HKn:=LH (fun W=>known_any d W)
 have HPl:=LH (fun W (hW:GWL W)=>Plain_any d lab W (by have:=hf.1;simp only at this;omega) hW)
 have HGr:=LH (fun W=>great_any op W (by have:=hf.2.1;simp only at this;omega))
 have HSe:=LH (fun W=>sets_any op W)
 have HCo:=LH (fun bd bs W (hW:Below w.heap.size w W) h1 h2=>acont_any d op args v bd bs W (hg.below hW) hf.2.2 (hs.at hW hW.size) h1 h2)
 obtain ⟨A,c,rfl,hc,hm⟩:=hs.form
 unfold maxLen at hm
 clear hs hf
 rw [hk] at HKn
 subst hl
 have o1:(op == [])=false:=by simpa using ho
 have o2:op.isEmpty=false:=by simpa using ho
 rw [hgr] at HGr
 rw [hse] at HSe
 rw [hal] at HCo
 simp only [Bool.not_false] at HCo
 subst hcl
 clear hk hgr ho hse hal
 go_enter Tryz.func16, Tryz.ntmps16
 go_wp2_with fail
 refine (HKn.out _).mono ?_
 rintro e w0 ⟨rfl,rfl⟩
 go_wp2_with fail
 refine (HGr.out _).mono ?_
 rintro e w1 ⟨rfl,hb1⟩
 obtain ⟨C0,C1,BB⟩:=boxes hb1
 have HC1:=LH C0
 have HD1:=LH C1
 have HB1:=LH BB
 clear C0 C1 BB hb1
 have d0:=coh (i:=0) HC1.out
 simp at d0
 obtain ⟨s0,s1,s2,s3⟩:=cells4 HD1.out
 go_wp2_with fail
 refine (HSe.out _).mono ?_
 rintro e w2 ⟨rfl,hb2⟩
 have C0:=(hb2.block _ (loh HC1.out)).trans HC1.out
 have C1:=(hb2.block _ (loh HD1.out)).trans HD1.out
 have BB:=bthen HB1.out hb2
 have HC2:=LH C0
 have HD2:=LH C1
 have HB2:=LH BB
 clear C0 C1 BB hb2 d0 s0 s1 s2 s3
 have d0:=coh (i:=0) HC2.out
 simp at d0
 obtain ⟨s0,s1,s2,s3⟩:=cells4 HD2.out
 go_wp2_with fail
 first | (go_region_with fail) | fail
 all_goals (
  go_wp2_with fail
  refine (HCo.out _ _ _ HB2.out.drew (by simpa using d0) (by simpa using s2)).mono ?_
  rintro e w9 ⟨rfl,hb9⟩
  go_wp2_with fail
  go_ret
  exact ⟨rfl,bthen HB2.out.drew hb9⟩)
theorem Right12_b3 (d:Int) (lab:List UInt8) (colon:Bool) (op:List UInt8) (args:List Ar) (v:Value) (w:World) (hg:GWL w) (hf:fitS ⟨lab,colon,op,args⟩) (hs:ArAt w (· < w.heap.size) v args) (hk:knownB d=true) (hl:lab≠[]) (hp:plainB d lab=true) (ho:op = []) (ha:args = []) (hcl:colon=false) :
  Calls Tryz.prog 16 #[.int .i64 d,.agg #[.string ⟨lab.toArray⟩,.bool colon,.string ⟨op.toArray⟩,v]] w fun e w'=>e=.returned (.int .i64 2)/\Below w.heap.size w w':=by
 have HKn:=LH (fun W=>known_any d W)
 have HPl:=LH (fun W (hW:GWL W)=>Plain_any d lab W (by have:=hf.1;simp only at this;omega) hW)
 have HGr:=LH (fun W=>great_any op W (by have:=hf.2.1;simp only at this;omega))
 have HSe:=LH (fun W=>sets_any op W)
 have HCo:=LH (fun bd bs W (hW:Below w.heap.size w W) h1 h2=>acont_any d op args v bd bs W (hg.below hW) hf.2.2 (hs.at hW hW.size) h1 h2)
 obtain ⟨A,c,rfl,hc,hm⟩:=hs.form
 unfold maxLen at hm
 clear hs hf
 rw [hk] at HKn
 have l1:(lab == [])=false:=by simpa using hl
 have l2:lab.isEmpty=false:=by simpa using hl
 rw [hp] at HPl
 subst ho
 subst ha
 simp only [List.length_nil] at *
 subst hcl
 rw [show setsB []=false by decide] at HSe
 clear hk hl hp
 go_enter Tryz.func16, Tryz.ntmps16
 go_wp2_with fail
 refine (HKn.out _).mono ?_
 rintro e w0 ⟨rfl,rfl⟩
 go_wp2_with fail
 refine (HPl.out _ (hg.below (((Below.refl _ _).alloc (Nat.le_refl _) _).alloc (by simp) _))).mono ?_
 rintro e w1 ⟨rfl,hb1⟩
 obtain ⟨C0,C1,BB⟩:=boxes hb1
 have HC1:=LH C0
 have HD1:=LH C1
 have HB1:=LH BB
 clear C0 C1 BB hb1
 have d0:=coh (i:=0) HC1.out
 simp at d0
 obtain ⟨s0,s1,s2,s3⟩:=cells4 HD1.out
 go_wp2_with fail
 refine (HSe.out _).mono ?_
 rintro e w2 ⟨rfl,hb2⟩
 have C0:=(hb2.block _ (loh HC1.out)).trans HC1.out
 have C1:=(hb2.block _ (loh HD1.out)).trans HD1.out
 have BB:=bthen HB1.out hb2
 have HC2:=LH C0
 have HD2:=LH C1
 have HB2:=LH BB
 clear C0 C1 BB hb2 d0 s0 s1 s2 s3
 have d0:=coh (i:=0) HC2.out
 simp at d0
 obtain ⟨s0,s1,s2,s3⟩:=cells4 HD2.out
 go_wp2_with fail
 have hz3:w.heap.size+1<w2.heap.size:=loh HD2.out
 first | (go_region_with (first | (go_at_call 35;(with_reducible refine (HSe.out _).mono ?_);rintro e1 w3 ⟨rfl,hb3⟩;have t1:=(hb3.cell (p:=⟨w.heap.size+1,1,none⟩) hz3).trans s1))) | fail
 all_goals (
  have C0:=(hb3.block _ (loh HC2.out)).trans HC2.out
  have C1:=(hb3.block _ (loh HD2.out)).trans HD2.out
  have BB:=HB2.out.drew.trans (hb3.mono (by simpa using HB2.out.size))
  have HC3:=LH C0
  have HD3:=LH C1
  have HB3:=LH BB
  clear C0 C1 BB hb3 t1 d0 s0 s1 s2 s3
  have d0:=coh (i:=0) HC3.out
  simp at d0
  obtain ⟨s0,s1,s2,s3⟩:=cells4 HD3.out
  go_wp2_with fail
  go_ret
  exact ⟨rfl,HB3.out⟩)
theorem Right12_b4 (d:Int) (lab:List UInt8) (colon:Bool) (op:List UInt8) (args:List Ar) (v:Value) (w:World) (hg:GWL w) (hf:fitS ⟨lab,colon,op,args⟩) (hs:ArAt w (· < w.heap.size) v args) (hk:knownB d=true) (hl:lab≠[]) (hp:plainB d lab=true) (ho:op = []) (ha:args = []) (hcl:colon=true) :
  Calls Tryz.prog 16 #[.int .i64 d,.agg #[.string ⟨lab.toArray⟩,.bool colon,.string ⟨op.toArray⟩,v]] w fun e w'=>e=.returned (.int .i64 0)/\Below w.heap.size w w':=by
 have HKn:=LH (fun W=>known_any d W)
 have HPl:=LH (fun W (hW:GWL W)=>Plain_any d lab W (by have:=hf.1;simp only at this;omega) hW)
 have HGr:=LH (fun W=>great_any op W (by have:=hf.2.1;simp only at this;omega))
 have HSe:=LH (fun W=>sets_any op W)
 have HCo:=LH (fun bd bs W (hW:Below w.heap.size w W) h1 h2=>acont_any d op args v bd bs W (hg.below hW) hf.2.2 (hs.at hW hW.size) h1 h2)
 obtain ⟨A,c,rfl,hc,hm⟩:=hs.form
 unfold maxLen at hm
 clear hs hf
 rw [hk] at HKn
 have l1:(lab == [])=false:=by simpa using hl
 have l2:lab.isEmpty=false:=by simpa using hl
 rw [hp] at HPl
 subst ho
 subst ha
 simp only [List.length_nil] at *
 subst hcl
 rw [show setsB []=false by decide] at HSe
 simp only [List.all_nil,Bool.not_true] at HCo
 clear hk hl hp
 go_enter Tryz.func16, Tryz.ntmps16
 go_wp2_with fail
 refine (HKn.out _).mono ?_
 rintro e w0 ⟨rfl,rfl⟩
 go_wp2_with fail
 refine (HPl.out _ (hg.below (((Below.refl _ _).alloc (Nat.le_refl _) _).alloc (by simp) _))).mono ?_
 rintro e w1 ⟨rfl,hb1⟩
 obtain ⟨C0,C1,BB⟩:=boxes hb1
 have HC1:=LH C0
 have HD1:=LH C1
 have HB1:=LH BB
 clear C0 C1 BB hb1
 have d0:=coh (i:=0) HC1.out
 simp at d0
 obtain ⟨s0,s1,s2,s3⟩:=cells4 HD1.out
 go_wp2_with fail
 refine (HSe.out _).mono ?_
 rintro e w2 ⟨rfl,hb2⟩
 have C0:=(hb2.block _ (loh HC1.out)).trans HC1.out
 have C1:=(hb2.block _ (loh HD1.out)).trans HD1.out
 have BB:=bthen HB1.out hb2
 have HC2:=LH C0
 have HD2:=LH C1
 have HB2:=LH BB
 clear C0 C1 BB hb2 d0 s0 s1 s2 s3
 have d0:=coh (i:=0) HC2.out
 simp at d0
 obtain ⟨s0,s1,s2,s3⟩:=cells4 HD2.out
 go_wp2_with fail
 have hz3:w.heap.size+1<w2.heap.size:=loh HD2.out
 first | (go_region_with (first | (go_at_call 35;(with_reducible refine (HSe.out _).mono ?_);rintro e1 w3 ⟨rfl,hb3⟩;have t1:=(hb3.cell (p:=⟨w.heap.size+1,1,none⟩) hz3).trans s1))) | fail
 all_goals (
  have C0:=(hb3.block _ (loh HC2.out)).trans HC2.out
  have C1:=(hb3.block _ (loh HD2.out)).trans HD2.out
  have BB:=HB2.out.drew.trans (hb3.mono (by simpa using HB2.out.size))
  have HC3:=LH C0
  have HD3:=LH C1
  have HB3:=LH BB
  clear C0 C1 BB hb3 t1 d0 s0 s1 s2 s3
  have d0:=coh (i:=0) HC3.out
  simp at d0
  obtain ⟨s0,s1,s2,s3⟩:=cells4 HD3.out
  go_wp2_with fail
  refine (HCo.out _ _ _ HB3.out d0 s2).mono ?_
  rintro e w9 ⟨rfl,hb9⟩
  go_wp2_with fail
  go_ret
  exact ⟨rfl,bthen HB3.out hb9⟩)
theorem Right12_b1 (d:Int) (lab:List UInt8) (colon:Bool) (op:List UInt8) (args:List Ar) (v:Value) (w:World) (hg:GWL w) (hf:fitS ⟨lab,colon,op,args⟩) (hs:ArAt w (· < w.heap.size) v args) (hk:knownB d=true) (hl:lab≠[]) (hp:plainB d lab=false) :
  Calls Tryz.prog 16 #[.int .i64 d,.agg #[.string ⟨lab.toArray⟩,.bool colon,.string ⟨op.toArray⟩,v]] w fun e w'=>e=.returned (.int .i64 2)/\Below w.heap.size w w':=by
 have HKn:=LH (fun W=>known_any d W)
 have HPl:=LH (fun W (hW:GWL W)=>Plain_any d lab W (by have:=hf.1;simp only at this;omega) hW)
 have HGr:=LH (fun W=>great_any op W (by have:=hf.2.1;simp only at this;omega))
 have HSe:=LH (fun W=>sets_any op W)
 have HCo:=LH (fun bd bs W (hW:Below w.heap.size w W) h1 h2=>acont_any d op args v bd bs W (hg.below hW) hf.2.2 (hs.at hW hW.size) h1 h2)
 obtain ⟨A,c,rfl,hc,hm⟩:=hs.form
 unfold maxLen at hm
 clear hs hf
 rw [hk] at HKn
 have l1:(lab == [])=false:=by simpa using hl
 have l2:lab.isEmpty=false:=by simpa using hl
 rw [hp] at HPl
 clear hk hl hp
 go_enter Tryz.func16, Tryz.ntmps16
 go_wp2_with fail
 refine (HKn.out _).mono ?_
 rintro e w0 ⟨rfl,rfl⟩
 go_wp2_with fail
 refine (HPl.out _ (hg.below (((Below.refl _ _).alloc (Nat.le_refl _) _).alloc (by simp) _))).mono ?_
 rintro e w1 ⟨rfl,hb1⟩
 obtain ⟨C0,C1,BB⟩:=boxes hb1
 have HC1:=LH C0
 have HD1:=LH C1
 have HB1:=LH BB
 clear C0 C1 BB hb1
 have d0:=coh (i:=0) HC1.out
 simp at d0
 obtain ⟨s0,s1,s2,s3⟩:=cells4 HD1.out
 go_wp2_with fail
 go_ret
 exact ⟨rfl,HB1.out⟩
theorem Right12_b2 (d:Int) (lab:List UInt8) (colon:Bool) (op:List UInt8) (args:List Ar) (v:Value) (w:World) (hg:GWL w) (hf:fitS ⟨lab,colon,op,args⟩) (hs:ArAt w (· < w.heap.size) v args) (hk:knownB d=true) (hl:lab≠[]) (hp:plainB d lab=true) (ho:op = []) (ha:args≠[]) :
  Calls Tryz.prog 16 #[.int .i64 d,.agg #[.string ⟨lab.toArray⟩,.bool colon,.string ⟨op.toArray⟩,v]] w fun e w'=>e=.returned (.int .i64 2)/\Below w.heap.size w w':=by
 have HKn:=LH (fun W=>known_any d W)
 have HPl:=LH (fun W (hW:GWL W)=>Plain_any d lab W (by have:=hf.1;simp only at this;omega) hW)
 have HGr:=LH (fun W=>great_any op W (by have:=hf.2.1;simp only at this;omega))
 have HSe:=LH (fun W=>sets_any op W)
 have HCo:=LH (fun bd bs W (hW:Below w.heap.size w W) h1 h2=>acont_any d op args v bd bs W (hg.below hW) hf.2.2 (hs.at hW hW.size) h1 h2)
 obtain ⟨A,c,rfl,hc,hm⟩:=hs.form
 unfold maxLen at hm
 clear hs hf
 rw [hk] at HKn
 have l1:(lab == [])=false:=by simpa using hl
 have l2:lab.isEmpty=false:=by simpa using hl
 rw [hp] at HPl
 subst ho
 have a1:0<args.length:=List.length_pos_iff.2 ha
 clear hk hl hp ha
 go_enter Tryz.func16, Tryz.ntmps16
 go_wp2_with fail
 refine (HKn.out _).mono ?_
 rintro e w0 ⟨rfl,rfl⟩
 go_wp2_with fail
 refine (HPl.out _ (hg.below (((Below.refl _ _).alloc (Nat.le_refl _) _).alloc (by simp) _))).mono ?_
 rintro e w1 ⟨rfl,hb1⟩
 obtain ⟨C0,C1,BB⟩:=boxes hb1
 have HC1:=LH C0
 have HD1:=LH C1
 have HB1:=LH BB
 clear C0 C1 BB hb1
 have d0:=coh (i:=0) HC1.out
 simp at d0
 obtain ⟨s0,s1,s2,s3⟩:=cells4 HD1.out
 go_wp2_with fail
 go_ret
 exact ⟨rfl,HB1.out⟩
theorem Right12_b5 (d:Int) (lab:List UInt8) (colon:Bool) (op:List UInt8) (args:List Ar) (v:Value) (w:World) (hg:GWL w) (hf:fitS ⟨lab,colon,op,args⟩) (hs:ArAt w (· < w.heap.size) v args) (hk:knownB d=true) (hl:lab≠[]) (hp:plainB d lab=true) (ho:op≠[]) (hgr:greatB op=false) :
  Calls Tryz.prog 16 #[.int .i64 d,.agg #[.string ⟨lab.toArray⟩,.bool colon,.string ⟨op.toArray⟩,v]] w fun e w'=>e=.returned (.int .i64 2)/\Below w.heap.size w w':=by
 have HKn:=LH (fun W=>known_any d W)
 have HPl:=LH (fun W (hW:GWL W)=>Plain_any d lab W (by have:=hf.1;simp only at this;omega) hW)
 have HGr:=LH (fun W=>great_any op W (by have:=hf.2.1;simp only at this;omega))
 have HSe:=LH (fun W=>sets_any op W)
 have HCo:=LH (fun bd bs W (hW:Below w.heap.size w W) h1 h2=>acont_any d op args v bd bs W (hg.below hW) hf.2.2 (hs.at hW hW.size) h1 h2)
 obtain ⟨A,c,rfl,hc,hm⟩:=hs.form
 unfold maxLen at hm
 clear hs hf
 rw [hk] at HKn
 have l1:(lab == [])=false:=by simpa using hl
 have l2:lab.isEmpty=false:=by simpa using hl
 rw [hp] at HPl
 have o1:(op == [])=false:=by simpa using ho
 have o2:op.isEmpty=false:=by simpa using ho
 rw [hgr] at HGr
 clear hk hl hp ho hgr
 go_enter Tryz.func16, Tryz.ntmps16
 go_wp2_with fail
 refine (HKn.out _).mono ?_
 rintro e w0 ⟨rfl,rfl⟩
 go_wp2_with fail
 refine (HPl.out _ (hg.below (((Below.refl _ _).alloc (Nat.le_refl _) _).alloc (by simp) _))).mono ?_
 rintro e w1 ⟨rfl,hb1⟩
 obtain ⟨C0,C1,BB⟩:=boxes hb1
 have HC1:=LH C0
 have HD1:=LH C1
 have HB1:=LH BB
 clear C0 C1 BB hb1
 have d0:=coh (i:=0) HC1.out
 simp at d0
 obtain ⟨s0,s1,s2,s3⟩:=cells4 HD1.out
 go_wp2_with fail
 refine (HGr.out _).mono ?_
 rintro e w2 ⟨rfl,hb2⟩
 have C0:=(hb2.block _ (loh HC1.out)).trans HC1.out
 have C1:=(hb2.block _ (loh HD1.out)).trans HD1.out
 have BB:=bthen HB1.out hb2
 have HC2:=LH C0
 have HD2:=LH C1
 have HB2:=LH BB
 clear C0 C1 BB hb2 d0 s0 s1 s2 s3
 have d0:=coh (i:=0) HC2.out
 simp at d0
 obtain ⟨s0,s1,s2,s3⟩:=cells4 HD2.out
 go_wp2_with fail
 go_ret
 exact ⟨rfl,HB2.out⟩
theorem Right12_c1t (d:Int) (lab:List UInt8) (colon:Bool) (op:List UInt8) (args:List Ar) (v:Value) (w:World) (hg:GWL w) (hf:fitS ⟨lab,colon,op,args⟩) (hs:ArAt w (· < w.heap.size) v args) (hk:knownB d=true) (hl:lab≠[]) (hp:plainB d lab=true) (ho:op≠[]) (hgr:greatB op=true) (hse:setsB op=true) (hcl:colon=true) :
  Calls Tryz.prog 16 #[.int .i64 d,.agg #[.string ⟨lab.toArray⟩,.bool colon,.string ⟨op.toArray⟩,v]] w fun e w'=>e=.returned (.int .i64 2)/\Below w.heap.size w w':=by
 have HKn:=LH (fun W=>known_any d W)
 have HPl:=LH (fun W (hW:GWL W)=>Plain_any d lab W (by have:=hf.1;simp only at this;omega) hW)
 have HGr:=LH (fun W=>great_any op W (by have:=hf.2.1;simp only at this;omega))
 have HSe:=LH (fun W=>sets_any op W)
 have HCo:=LH (fun bd bs W (hW:Below w.heap.size w W) h1 h2=>acont_any d op args v bd bs W (hg.below hW) hf.2.2 (hs.at hW hW.size) h1 h2)
 obtain ⟨A,c,rfl,hc,hm⟩:=hs.form
 unfold maxLen at hm
 clear hs hf
 rw [hk] at HKn
 have l1:(lab == [])=false:=by simpa using hl
 have l2:lab.isEmpty=false:=by simpa using hl
 rw [hp] at HPl
 have o1:(op == [])=false:=by simpa using ho
 have o2:op.isEmpty=false:=by simpa using ho
 rw [hgr] at HGr
 rw [hse] at HSe
 subst hcl
 clear hk hl hp ho hgr hse
 go_enter Tryz.func16, Tryz.ntmps16
 go_wp2_with fail
 refine (HKn.out _).mono ?_
 rintro e w0 ⟨rfl,rfl⟩
 go_wp2_with fail
 refine (HPl.out _ (hg.below (((Below.refl _ _).alloc (Nat.le_refl _) _).alloc (by simp) _))).mono ?_
 rintro e w1 ⟨rfl,hb1⟩
 obtain ⟨C0,C1,BB⟩:=boxes hb1
 have HC1:=LH C0
 have HD1:=LH C1
 have HB1:=LH BB
 clear C0 C1 BB hb1
 have d0:=coh (i:=0) HC1.out
 simp at d0
 obtain ⟨s0,s1,s2,s3⟩:=cells4 HD1.out
 go_wp2_with fail
 refine (HGr.out _).mono ?_
 rintro e w2 ⟨rfl,hb2⟩
 have C0:=(hb2.block _ (loh HC1.out)).trans HC1.out
 have C1:=(hb2.block _ (loh HD1.out)).trans HD1.out
 have BB:=bthen HB1.out hb2
 have HC2:=LH C0
 have HD2:=LH C1
 have HB2:=LH BB
 clear C0 C1 BB hb2 d0 s0 s1 s2 s3
 have d0:=coh (i:=0) HC2.out
 simp at d0
 obtain ⟨s0,s1,s2,s3⟩:=cells4 HD2.out
 go_wp2_with fail
 refine (HSe.out _).mono ?_
 rintro e w3 ⟨rfl,hb3⟩
 have C0:=(hb3.block _ (loh HC2.out)).trans HC2.out
 have C1:=(hb3.block _ (loh HD2.out)).trans HD2.out
 have BB:=bthen HB2.out hb3
 have HC3:=LH C0
 have HD3:=LH C1
 have HB3:=LH BB
 clear C0 C1 BB hb3 d0 s0 s1 s2 s3
 have d0:=coh (i:=0) HC3.out
 simp at d0
 obtain ⟨s0,s1,s2,s3⟩:=cells4 HD3.out
 go_wp2_with fail
 have hz4:w.heap.size+1<w3.heap.size:=loh HD3.out
 first | (go_region_with (first | (go_at_call 35;(with_reducible refine (HSe.out _).mono ?_);rintro e1 w4 ⟨rfl,hb4⟩;have t1:=(hb4.cell (p:=⟨w.heap.size+1,1,none⟩) hz4).trans s1))) | fail
 all_goals (
  have C0:=(hb4.block _ (loh HC3.out)).trans HC3.out
  have C1:=(hb4.block _ (loh HD3.out)).trans HD3.out
  have BB:=HB3.out.drew.trans (hb4.mono (by simpa using HB3.out.size))
  have HC4:=LH C0
  have HD4:=LH C1
  have HB4:=LH BB
  clear C0 C1 BB hb4 t1 d0 s0 s1 s2 s3
  have d0:=coh (i:=0) HC4.out
  simp at d0
  obtain ⟨s0,s1,s2,s3⟩:=cells4 HD4.out
  go_wp2_with fail
  go_ret
  exact ⟨rfl,HB4.out⟩)
theorem Right12_c2t (d:Int) (lab:List UInt8) (colon:Bool) (op:List UInt8) (args:List Ar) (v:Value) (w:World) (hg:GWL w) (hf:fitS ⟨lab,colon,op,args⟩) (hs:ArAt w (· < w.heap.size) v args) (hk:knownB d=true) (hl:lab≠[]) (hp:plainB d lab=true) (ho:op≠[]) (hgr:greatB op=true) (hse:setsB op=true) (hcl:colon=false) (hn:32<args.length) :
  Calls Tryz.prog 16 #[.int .i64 d,.agg #[.string ⟨lab.toArray⟩,.bool colon,.string ⟨op.toArray⟩,v]] w fun e w'=>e=.returned (.int .i64 2)/\Below w.heap.size w w':=by
 have HKn:=LH (fun W=>known_any d W)
 have HPl:=LH (fun W (hW:GWL W)=>Plain_any d lab W (by have:=hf.1;simp only at this;omega) hW)
 have HGr:=LH (fun W=>great_any op W (by have:=hf.2.1;simp only at this;omega))
 have HSe:=LH (fun W=>sets_any op W)
 have HCo:=LH (fun bd bs W (hW:Below w.heap.size w W) h1 h2=>acont_any d op args v bd bs W (hg.below hW) hf.2.2 (hs.at hW hW.size) h1 h2)
 obtain ⟨A,c,rfl,hc,hm⟩:=hs.form
 unfold maxLen at hm
 clear hs hf
 rw [hk] at HKn
 have l1:(lab == [])=false:=by simpa using hl
 have l2:lab.isEmpty=false:=by simpa using hl
 rw [hp] at HPl
 have o1:(op == [])=false:=by simpa using ho
 have o2:op.isEmpty=false:=by simpa using ho
 rw [hgr] at HGr
 rw [hse] at HSe
 subst hcl
 clear hk hl hp ho hgr hse
 go_enter Tryz.func16, Tryz.ntmps16
 go_wp2_with fail
 refine (HKn.out _).mono ?_
 rintro e w0 ⟨rfl,rfl⟩
 go_wp2_with fail
 refine (HPl.out _ (hg.below (((Below.refl _ _).alloc (Nat.le_refl _) _).alloc (by simp) _))).mono ?_
 rintro e w1 ⟨rfl,hb1⟩
 obtain ⟨C0,C1,BB⟩:=boxes hb1
 have HC1:=LH C0
 have HD1:=LH C1
 have HB1:=LH BB
 clear C0 C1 BB hb1
 have d0:=coh (i:=0) HC1.out
 simp at d0
 obtain ⟨s0,s1,s2,s3⟩:=cells4 HD1.out
 go_wp2_with fail
 refine (HGr.out _).mono ?_
 rintro e w2 ⟨rfl,hb2⟩
 have C0:=(hb2.block _ (loh HC1.out)).trans HC1.out
 have C1:=(hb2.block _ (loh HD1.out)).trans HD1.out
 have BB:=bthen HB1.out hb2
 have HC2:=LH C0
 have HD2:=LH C1
 have HB2:=LH BB
 clear C0 C1 BB hb2 d0 s0 s1 s2 s3
 have d0:=coh (i:=0) HC2.out
 simp at d0
 obtain ⟨s0,s1,s2,s3⟩:=cells4 HD2.out
 go_wp2_with fail
 refine (HSe.out _).mono ?_
 rintro e w3 ⟨rfl,hb3⟩
 have C0:=(hb3.block _ (loh HC2.out)).trans HC2.out
 have C1:=(hb3.block _ (loh HD2.out)).trans HD2.out
 have BB:=bthen HB2.out hb3
 have HC3:=LH C0
 have HD3:=LH C1
 have HB3:=LH BB
 clear C0 C1 BB hb3 d0 s0 s1 s2 s3
 have d0:=coh (i:=0) HC3.out
 simp at d0
 obtain ⟨s0,s1,s2,s3⟩:=cells4 HD3.out
 go_wp2_with fail
 have hz4:w.heap.size+1<w3.heap.size:=loh HD3.out
 first | (go_region_with (first | (go_at_call 35;(with_reducible refine (HSe.out _).mono ?_);rintro e1 w4 ⟨rfl,hb4⟩;have t1:=(hb4.cell (p:=⟨w.heap.size+1,1,none⟩) hz4).trans s1))) | fail
 all_goals (
  have C0:=(hb4.block _ (loh HC3.out)).trans HC3.out
  have C1:=(hb4.block _ (loh HD3.out)).trans HD3.out
  have BB:=HB3.out.drew.trans (hb4.mono (by simpa using HB3.out.size))
  have HC4:=LH C0
  have HD4:=LH C1
  have HB4:=LH BB
  clear C0 C1 BB hb4 t1 d0 s0 s1 s2 s3
  have d0:=coh (i:=0) HC4.out
  simp at d0
  obtain ⟨s0,s1,s2,s3⟩:=cells4 HD4.out
  go_wp2_with fail
  go_ret
  exact ⟨rfl,HB4.out⟩)
theorem Right12_c3tt (d:Int) (lab:List UInt8) (colon:Bool) (op:List UInt8) (args:List Ar) (v:Value) (w:World) (hg:GWL w) (hf:fitS ⟨lab,colon,op,args⟩) (hs:ArAt w (· < w.heap.size) v args) (hk:knownB d=true) (hl:lab≠[]) (hp:plainB d lab=true) (ho:op≠[]) (hgr:greatB op=true) (hse:setsB op=true) (hcl:colon=false) (hn:args.length<=32) (hal:args.all (rightA d op)=true) :
  Calls Tryz.prog 16 #[.int .i64 d,.agg #[.string ⟨lab.toArray⟩,.bool colon,.string ⟨op.toArray⟩,v]] w fun e w'=>e=.returned (.int .i64 0)/\Below w.heap.size w w':=by
 have HKn:=LH (fun W=>known_any d W)
 have HPl:=LH (fun W (hW:GWL W)=>Plain_any d lab W (by have:=hf.1;simp only at this;omega) hW)
 have HGr:=LH (fun W=>great_any op W (by have:=hf.2.1;simp only at this;omega))
 have HSe:=LH (fun W=>sets_any op W)
 have HCo:=LH (fun bd bs W (hW:Below w.heap.size w W) h1 h2=>acont_any d op args v bd bs W (hg.below hW) hf.2.2 (hs.at hW hW.size) h1 h2)
 obtain ⟨A,c,rfl,hc,hm⟩:=hs.form
 unfold maxLen at hm
 clear hs hf
 rw [hk] at HKn
 have l1:(lab == [])=false:=by simpa using hl
 have l2:lab.isEmpty=false:=by simpa using hl
 rw [hp] at HPl
 have o1:(op == [])=false:=by simpa using ho
 have o2:op.isEmpty=false:=by simpa using ho
 rw [hgr] at HGr
 rw [hse] at HSe
 rw [hal] at HCo
 simp only [Bool.not_true] at HCo
 subst hcl
 clear hk hl hp ho hgr hse hal
 go_enter Tryz.func16, Tryz.ntmps16
 go_wp2_with fail
 refine (HKn.out _).mono ?_
 rintro e w0 ⟨rfl,rfl⟩
 go_wp2_with fail
 refine (HPl.out _ (hg.below (((Below.refl _ _).alloc (Nat.le_refl _) _).alloc (by simp) _))).mono ?_
 rintro e w1 ⟨rfl,hb1⟩
 obtain ⟨C0,C1,BB⟩:=boxes hb1
 have HC1:=LH C0
 have HD1:=LH C1
 have HB1:=LH BB
 clear C0 C1 BB hb1
 have d0:=coh (i:=0) HC1.out
 simp at d0
 obtain ⟨s0,s1,s2,s3⟩:=cells4 HD1.out
 go_wp2_with fail
 refine (HGr.out _).mono ?_
 rintro e w2 ⟨rfl,hb2⟩
 have C0:=(hb2.block _ (loh HC1.out)).trans HC1.out
 have C1:=(hb2.block _ (loh HD1.out)).trans HD1.out
 have BB:=bthen HB1.out hb2
 have HC2:=LH C0
 have HD2:=LH C1
 have HB2:=LH BB
 clear C0 C1 BB hb2 d0 s0 s1 s2 s3
 have d0:=coh (i:=0) HC2.out
 simp at d0
 obtain ⟨s0,s1,s2,s3⟩:=cells4 HD2.out
 go_wp2_with fail
 refine (HSe.out _).mono ?_
 rintro e w3 ⟨rfl,hb3⟩
 have C0:=(hb3.block _ (loh HC2.out)).trans HC2.out
 have C1:=(hb3.block _ (loh HD2.out)).trans HD2.out
 have BB:=bthen HB2.out hb3
 have HC3:=LH C0
 have HD3:=LH C1
 have HB3:=LH BB
 clear C0 C1 BB hb3 d0 s0 s1 s2 s3
 have d0:=coh (i:=0) HC3.out
 simp at d0
 obtain ⟨s0,s1,s2,s3⟩:=cells4 HD3.out
 go_wp2_with fail
 have hz4:w.heap.size+1<w3.heap.size:=loh HD3.out
 first | (go_region_with (first | (go_at_call 35;(with_reducible refine (HSe.out _).mono ?_);rintro e1 w4 ⟨rfl,hb4⟩;have t1:=(hb4.cell (p:=⟨w.heap.size+1,1,none⟩) hz4).trans s1))) | fail
 all_goals (
  have C0:=(hb4.block _ (loh HC3.out)).trans HC3.out
  have C1:=(hb4.block _ (loh HD3.out)).trans HD3.out
  have BB:=HB3.out.drew.trans (hb4.mono (by simpa using HB3.out.size))
  have HC4:=LH C0
  have HD4:=LH C1
  have HB4:=LH BB
  clear C0 C1 BB hb4 t1 d0 s0 s1 s2 s3
  have d0:=coh (i:=0) HC4.out
  simp at d0
  obtain ⟨s0,s1,s2,s3⟩:=cells4 HD4.out
  go_wp2_with fail
  refine (HCo.out _ _ _ HB4.out d0 s2).mono ?_
  rintro e w9 ⟨rfl,hb9⟩
  go_wp2_with fail
  go_ret
  exact ⟨rfl,bthen HB4.out hb9⟩)
theorem Right12_c3tf (d:Int) (lab:List UInt8) (colon:Bool) (op:List UInt8) (args:List Ar) (v:Value) (w:World) (hg:GWL w) (hf:fitS ⟨lab,colon,op,args⟩) (hs:ArAt w (· < w.heap.size) v args) (hk:knownB d=true) (hl:lab≠[]) (hp:plainB d lab=true) (ho:op≠[]) (hgr:greatB op=true) (hse:setsB op=true) (hcl:colon=false) (hn:args.length<=32) (hal:args.all (rightA d op)=false) :
  Calls Tryz.prog 16 #[.int .i64 d,.agg #[.string ⟨lab.toArray⟩,.bool colon,.string ⟨op.toArray⟩,v]] w fun e w'=>e=.returned (.int .i64 2)/\Below w.heap.size w w':=by
 have HKn:=LH (fun W=>known_any d W)
 have HPl:=LH (fun W (hW:GWL W)=>Plain_any d lab W (by have:=hf.1;simp only at this;omega) hW)
 have HGr:=LH (fun W=>great_any op W (by have:=hf.2.1;simp only at this;omega))
 have HSe:=LH (fun W=>sets_any op W)
 have HCo:=LH (fun bd bs W (hW:Below w.heap.size w W) h1 h2=>acont_any d op args v bd bs W (hg.below hW) hf.2.2 (hs.at hW hW.size) h1 h2)
 obtain ⟨A,c,rfl,hc,hm⟩:=hs.form
 unfold maxLen at hm
 clear hs hf
 rw [hk] at HKn
 have l1:(lab == [])=false:=by simpa using hl
 have l2:lab.isEmpty=false:=by simpa using hl
 rw [hp] at HPl
 have o1:(op == [])=false:=by simpa using ho
 have o2:op.isEmpty=false:=by simpa using ho
 rw [hgr] at HGr
 rw [hse] at HSe
 rw [hal] at HCo
 simp only [Bool.not_false] at HCo
 subst hcl
 clear hk hl hp ho hgr hse hal
 go_enter Tryz.func16, Tryz.ntmps16
 go_wp2_with fail
 refine (HKn.out _).mono ?_
 rintro e w0 ⟨rfl,rfl⟩
 go_wp2_with fail
 refine (HPl.out _ (hg.below (((Below.refl _ _).alloc (Nat.le_refl _) _).alloc (by simp) _))).mono ?_
 rintro e w1 ⟨rfl,hb1⟩
 obtain ⟨C0,C1,BB⟩:=boxes hb1
 have HC1:=LH C0
 have HD1:=LH C1
 have HB1:=LH BB
 clear C0 C1 BB hb1
 have d0:=coh (i:=0) HC1.out
 simp at d0
 obtain ⟨s0,s1,s2,s3⟩:=cells4 HD1.out
 go_wp2_with fail
 refine (HGr.out _).mono ?_
 rintro e w2 ⟨rfl,hb2⟩
 have C0:=(hb2.block _ (loh HC1.out)).trans HC1.out
 have C1:=(hb2.block _ (loh HD1.out)).trans HD1.out
 have BB:=bthen HB1.out hb2
 have HC2:=LH C0
 have HD2:=LH C1
 have HB2:=LH BB
 clear C0 C1 BB hb2 d0 s0 s1 s2 s3
 have d0:=coh (i:=0) HC2.out
 simp at d0
 obtain ⟨s0,s1,s2,s3⟩:=cells4 HD2.out
 go_wp2_with fail
 refine (HSe.out _).mono ?_
 rintro e w3 ⟨rfl,hb3⟩
 have C0:=(hb3.block _ (loh HC2.out)).trans HC2.out
 have C1:=(hb3.block _ (loh HD2.out)).trans HD2.out
 have BB:=bthen HB2.out hb3
 have HC3:=LH C0
 have HD3:=LH C1
 have HB3:=LH BB
 clear C0 C1 BB hb3 d0 s0 s1 s2 s3
 have d0:=coh (i:=0) HC3.out
 simp at d0
 obtain ⟨s0,s1,s2,s3⟩:=cells4 HD3.out
 go_wp2_with fail
 have hz4:w.heap.size+1<w3.heap.size:=loh HD3.out
 first | (go_region_with (first | (go_at_call 35;(with_reducible refine (HSe.out _).mono ?_);rintro e1 w4 ⟨rfl,hb4⟩;have t1:=(hb4.cell (p:=⟨w.heap.size+1,1,none⟩) hz4).trans s1))) | fail
 all_goals (
  have C0:=(hb4.block _ (loh HC3.out)).trans HC3.out
  have C1:=(hb4.block _ (loh HD3.out)).trans HD3.out
  have BB:=HB3.out.drew.trans (hb4.mono (by simpa using HB3.out.size))
  have HC4:=LH C0
  have HD4:=LH C1
  have HB4:=LH BB
  clear C0 C1 BB hb4 t1 d0 s0 s1 s2 s3
  have d0:=coh (i:=0) HC4.out
  simp at d0
  obtain ⟨s0,s1,s2,s3⟩:=cells4 HD4.out
  go_wp2_with fail
  refine (HCo.out _ _ _ HB4.out d0 s2).mono ?_
  rintro e w9 ⟨rfl,hb9⟩
  go_wp2_with fail
  go_ret
  exact ⟨rfl,bthen HB4.out hb9⟩)
theorem Right12_c1f (d:Int) (lab:List UInt8) (colon:Bool) (op:List UInt8) (args:List Ar) (v:Value) (w:World) (hg:GWL w) (hf:fitS ⟨lab,colon,op,args⟩) (hs:ArAt w (· < w.heap.size) v args) (hk:knownB d=true) (hl:lab≠[]) (hp:plainB d lab=true) (ho:op≠[]) (hgr:greatB op=true) (hse:setsB op=false) (hcl:colon=false) :
  Calls Tryz.prog 16 #[.int .i64 d,.agg #[.string ⟨lab.toArray⟩,.bool colon,.string ⟨op.toArray⟩,v]] w fun e w'=>e=.returned (.int .i64 2)/\Below w.heap.size w w':=by
 have HKn:=LH (fun W=>known_any d W)
 have HPl:=LH (fun W (hW:GWL W)=>Plain_any d lab W (by have:=hf.1;simp only at this;omega) hW)
 have HGr:=LH (fun W=>great_any op W (by have:=hf.2.1;simp only at this;omega))
 have HSe:=LH (fun W=>sets_any op W)
 have HCo:=LH (fun bd bs W (hW:Below w.heap.size w W) h1 h2=>acont_any d op args v bd bs W (hg.below hW) hf.2.2 (hs.at hW hW.size) h1 h2)
 obtain ⟨A,c,rfl,hc,hm⟩:=hs.form
 unfold maxLen at hm
 clear hs hf
 rw [hk] at HKn
 have l1:(lab == [])=false:=by simpa using hl
 have l2:lab.isEmpty=false:=by simpa using hl
 rw [hp] at HPl
 have o1:(op == [])=false:=by simpa using ho
 have o2:op.isEmpty=false:=by simpa using ho
 rw [hgr] at HGr
 rw [hse] at HSe
 subst hcl
 clear hk hl hp ho hgr hse
 go_enter Tryz.func16, Tryz.ntmps16
 go_wp2_with fail
 refine (HKn.out _).mono ?_
 rintro e w0 ⟨rfl,rfl⟩
 go_wp2_with fail
 refine (HPl.out _ (hg.below (((Below.refl _ _).alloc (Nat.le_refl _) _).alloc (by simp) _))).mono ?_
 rintro e w1 ⟨rfl,hb1⟩
 obtain ⟨C0,C1,BB⟩:=boxes hb1
 have HC1:=LH C0
 have HD1:=LH C1
 have HB1:=LH BB
 clear C0 C1 BB hb1
 have d0:=coh (i:=0) HC1.out
 simp at d0
 obtain ⟨s0,s1,s2,s3⟩:=cells4 HD1.out
 go_wp2_with fail
 refine (HGr.out _).mono ?_
 rintro e w2 ⟨rfl,hb2⟩
 have C0:=(hb2.block _ (loh HC1.out)).trans HC1.out
 have C1:=(hb2.block _ (loh HD1.out)).trans HD1.out
 have BB:=bthen HB1.out hb2
 have HC2:=LH C0
 have HD2:=LH C1
 have HB2:=LH BB
 clear C0 C1 BB hb2 d0 s0 s1 s2 s3
 have d0:=coh (i:=0) HC2.out
 simp at d0
 obtain ⟨s0,s1,s2,s3⟩:=cells4 HD2.out
 go_wp2_with fail
 refine (HSe.out _).mono ?_
 rintro e w3 ⟨rfl,hb3⟩
 have C0:=(hb3.block _ (loh HC2.out)).trans HC2.out
 have C1:=(hb3.block _ (loh HD2.out)).trans HD2.out
 have BB:=bthen HB2.out hb3
 have HC3:=LH C0
 have HD3:=LH C1
 have HB3:=LH BB
 clear C0 C1 BB hb3 d0 s0 s1 s2 s3
 have d0:=coh (i:=0) HC3.out
 simp at d0
 obtain ⟨s0,s1,s2,s3⟩:=cells4 HD3.out
 go_wp2_with fail
 have hz4:w.heap.size+1<w3.heap.size:=loh HD3.out
 first | (go_region_with (first | (go_at_call 35;(with_reducible refine (HSe.out _).mono ?_);rintro e1 w4 ⟨rfl,hb4⟩;have t1:=(hb4.cell (p:=⟨w.heap.size+1,1,none⟩) hz4).trans s1))) | fail
 all_goals (
  have C0:=(hb4.block _ (loh HC3.out)).trans HC3.out
  have C1:=(hb4.block _ (loh HD3.out)).trans HD3.out
  have BB:=HB3.out.drew.trans (hb4.mono (by simpa using HB3.out.size))
  have HC4:=LH C0
  have HD4:=LH C1
  have HB4:=LH BB
  clear C0 C1 BB hb4 t1 d0 s0 s1 s2 s3
  have d0:=coh (i:=0) HC4.out
  simp at d0
  obtain ⟨s0,s1,s2,s3⟩:=cells4 HD4.out
  go_wp2_with fail
  go_ret
  exact ⟨rfl,HB4.out⟩)
theorem Right12_c2f (d:Int) (lab:List UInt8) (colon:Bool) (op:List UInt8) (args:List Ar) (v:Value) (w:World) (hg:GWL w) (hf:fitS ⟨lab,colon,op,args⟩) (hs:ArAt w (· < w.heap.size) v args) (hk:knownB d=true) (hl:lab≠[]) (hp:plainB d lab=true) (ho:op≠[]) (hgr:greatB op=true) (hse:setsB op=false) (hcl:colon=true) (hn:32<args.length) :
  Calls Tryz.prog 16 #[.int .i64 d,.agg #[.string ⟨lab.toArray⟩,.bool colon,.string ⟨op.toArray⟩,v]] w fun e w'=>e=.returned (.int .i64 2)/\Below w.heap.size w w':=by
 have HKn:=LH (fun W=>known_any d W)
 have HPl:=LH (fun W (hW:GWL W)=>Plain_any d lab W (by have:=hf.1;simp only at this;omega) hW)
 have HGr:=LH (fun W=>great_any op W (by have:=hf.2.1;simp only at this;omega))
 have HSe:=LH (fun W=>sets_any op W)
 have HCo:=LH (fun bd bs W (hW:Below w.heap.size w W) h1 h2=>acont_any d op args v bd bs W (hg.below hW) hf.2.2 (hs.at hW hW.size) h1 h2)
 obtain ⟨A,c,rfl,hc,hm⟩:=hs.form
 unfold maxLen at hm
 clear hs hf
 rw [hk] at HKn
 have l1:(lab == [])=false:=by simpa using hl
 have l2:lab.isEmpty=false:=by simpa using hl
 rw [hp] at HPl
 have o1:(op == [])=false:=by simpa using ho
 have o2:op.isEmpty=false:=by simpa using ho
 rw [hgr] at HGr
 rw [hse] at HSe
 subst hcl
 clear hk hl hp ho hgr hse
 go_enter Tryz.func16, Tryz.ntmps16
 go_wp2_with fail
 refine (HKn.out _).mono ?_
 rintro e w0 ⟨rfl,rfl⟩
 go_wp2_with fail
 refine (HPl.out _ (hg.below (((Below.refl _ _).alloc (Nat.le_refl _) _).alloc (by simp) _))).mono ?_
 rintro e w1 ⟨rfl,hb1⟩
 obtain ⟨C0,C1,BB⟩:=boxes hb1
 have HC1:=LH C0
 have HD1:=LH C1
 have HB1:=LH BB
 clear C0 C1 BB hb1
 have d0:=coh (i:=0) HC1.out
 simp at d0
 obtain ⟨s0,s1,s2,s3⟩:=cells4 HD1.out
 go_wp2_with fail
 refine (HGr.out _).mono ?_
 rintro e w2 ⟨rfl,hb2⟩
 have C0:=(hb2.block _ (loh HC1.out)).trans HC1.out
 have C1:=(hb2.block _ (loh HD1.out)).trans HD1.out
 have BB:=bthen HB1.out hb2
 have HC2:=LH C0
 have HD2:=LH C1
 have HB2:=LH BB
 clear C0 C1 BB hb2 d0 s0 s1 s2 s3
 have d0:=coh (i:=0) HC2.out
 simp at d0
 obtain ⟨s0,s1,s2,s3⟩:=cells4 HD2.out
 go_wp2_with fail
 refine (HSe.out _).mono ?_
 rintro e w3 ⟨rfl,hb3⟩
 have C0:=(hb3.block _ (loh HC2.out)).trans HC2.out
 have C1:=(hb3.block _ (loh HD2.out)).trans HD2.out
 have BB:=bthen HB2.out hb3
 have HC3:=LH C0
 have HD3:=LH C1
 have HB3:=LH BB
 clear C0 C1 BB hb3 d0 s0 s1 s2 s3
 have d0:=coh (i:=0) HC3.out
 simp at d0
 obtain ⟨s0,s1,s2,s3⟩:=cells4 HD3.out
 go_wp2_with fail
 have hz4:w.heap.size+1<w3.heap.size:=loh HD3.out
 first | (go_region_with (first | (go_at_call 35;(with_reducible refine (HSe.out _).mono ?_);rintro e1 w4 ⟨rfl,hb4⟩;have t1:=(hb4.cell (p:=⟨w.heap.size+1,1,none⟩) hz4).trans s1))) | fail
 all_goals (
  have C0:=(hb4.block _ (loh HC3.out)).trans HC3.out
  have C1:=(hb4.block _ (loh HD3.out)).trans HD3.out
  have BB:=HB3.out.drew.trans (hb4.mono (by simpa using HB3.out.size))
  have HC4:=LH C0
  have HD4:=LH C1
  have HB4:=LH BB
  clear C0 C1 BB hb4 t1 d0 s0 s1 s2 s3
  have d0:=coh (i:=0) HC4.out
  simp at d0
  obtain ⟨s0,s1,s2,s3⟩:=cells4 HD4.out
  go_wp2_with fail
  go_ret
  exact ⟨rfl,HB4.out⟩)
theorem Right12_c3ft (d:Int) (lab:List UInt8) (colon:Bool) (op:List UInt8) (args:List Ar) (v:Value) (w:World) (hg:GWL w) (hf:fitS ⟨lab,colon,op,args⟩) (hs:ArAt w (· < w.heap.size) v args) (hk:knownB d=true) (hl:lab≠[]) (hp:plainB d lab=true) (ho:op≠[]) (hgr:greatB op=true) (hse:setsB op=false) (hcl:colon=true) (hn:args.length<=32) (hal:args.all (rightA d op)=true) :
  Calls Tryz.prog 16 #[.int .i64 d,.agg #[.string ⟨lab.toArray⟩,.bool colon,.string ⟨op.toArray⟩,v]] w fun e w'=>e=.returned (.int .i64 0)/\Below w.heap.size w w':=by
 have HKn:=LH (fun W=>known_any d W)
 have HPl:=LH (fun W (hW:GWL W)=>Plain_any d lab W (by have:=hf.1;simp only at this;omega) hW)
 have HGr:=LH (fun W=>great_any op W (by have:=hf.2.1;simp only at this;omega))
 have HSe:=LH (fun W=>sets_any op W)
 have HCo:=LH (fun bd bs W (hW:Below w.heap.size w W) h1 h2=>acont_any d op args v bd bs W (hg.below hW) hf.2.2 (hs.at hW hW.size) h1 h2)
 obtain ⟨A,c,rfl,hc,hm⟩:=hs.form
 unfold maxLen at hm
 clear hs hf
 rw [hk] at HKn
 have l1:(lab == [])=false:=by simpa using hl
 have l2:lab.isEmpty=false:=by simpa using hl
 rw [hp] at HPl
 have o1:(op == [])=false:=by simpa using ho
 have o2:op.isEmpty=false:=by simpa using ho
 rw [hgr] at HGr
 rw [hse] at HSe
 rw [hal] at HCo
 simp only [Bool.not_true] at HCo
 subst hcl
 clear hk hl hp ho hgr hse hal
 go_enter Tryz.func16, Tryz.ntmps16
 go_wp2_with fail
 refine (HKn.out _).mono ?_
 rintro e w0 ⟨rfl,rfl⟩
 go_wp2_with fail
 refine (HPl.out _ (hg.below (((Below.refl _ _).alloc (Nat.le_refl _) _).alloc (by simp) _))).mono ?_
 rintro e w1 ⟨rfl,hb1⟩
 obtain ⟨C0,C1,BB⟩:=boxes hb1
 have HC1:=LH C0
 have HD1:=LH C1
 have HB1:=LH BB
 clear C0 C1 BB hb1
 have d0:=coh (i:=0) HC1.out
 simp at d0
 obtain ⟨s0,s1,s2,s3⟩:=cells4 HD1.out
 go_wp2_with fail
 refine (HGr.out _).mono ?_
 rintro e w2 ⟨rfl,hb2⟩
 have C0:=(hb2.block _ (loh HC1.out)).trans HC1.out
 have C1:=(hb2.block _ (loh HD1.out)).trans HD1.out
 have BB:=bthen HB1.out hb2
 have HC2:=LH C0
 have HD2:=LH C1
 have HB2:=LH BB
 clear C0 C1 BB hb2 d0 s0 s1 s2 s3
 have d0:=coh (i:=0) HC2.out
 simp at d0
 obtain ⟨s0,s1,s2,s3⟩:=cells4 HD2.out
 go_wp2_with fail
 refine (HSe.out _).mono ?_
 rintro e w3 ⟨rfl,hb3⟩
 have C0:=(hb3.block _ (loh HC2.out)).trans HC2.out
 have C1:=(hb3.block _ (loh HD2.out)).trans HD2.out
 have BB:=bthen HB2.out hb3
 have HC3:=LH C0
 have HD3:=LH C1
 have HB3:=LH BB
 clear C0 C1 BB hb3 d0 s0 s1 s2 s3
 have d0:=coh (i:=0) HC3.out
 simp at d0
 obtain ⟨s0,s1,s2,s3⟩:=cells4 HD3.out
 go_wp2_with fail
 have hz4:w.heap.size+1<w3.heap.size:=loh HD3.out
 first | (go_region_with (first | (go_at_call 35;(with_reducible refine (HSe.out _).mono ?_);rintro e1 w4 ⟨rfl,hb4⟩;have t1:=(hb4.cell (p:=⟨w.heap.size+1,1,none⟩) hz4).trans s1))) | fail
 all_goals (
  have C0:=(hb4.block _ (loh HC3.out)).trans HC3.out
  have C1:=(hb4.block _ (loh HD3.out)).trans HD3.out
  have BB:=HB3.out.drew.trans (hb4.mono (by simpa using HB3.out.size))
  have HC4:=LH C0
  have HD4:=LH C1
  have HB4:=LH BB
  clear C0 C1 BB hb4 t1 d0 s0 s1 s2 s3
  have d0:=coh (i:=0) HC4.out
  simp at d0
  obtain ⟨s0,s1,s2,s3⟩:=cells4 HD4.out
  go_wp2_with fail
  refine (HCo.out _ _ _ HB4.out d0 s2).mono ?_
  rintro e w9 ⟨rfl,hb9⟩
  go_wp2_with fail
  go_ret
  exact ⟨rfl,bthen HB4.out hb9⟩)
theorem Right12_c3ff (d:Int) (lab:List UInt8) (colon:Bool) (op:List UInt8) (args:List Ar) (v:Value) (w:World) (hg:GWL w) (hf:fitS ⟨lab,colon,op,args⟩) (hs:ArAt w (· < w.heap.size) v args) (hk:knownB d=true) (hl:lab≠[]) (hp:plainB d lab=true) (ho:op≠[]) (hgr:greatB op=true) (hse:setsB op=false) (hcl:colon=true) (hn:args.length<=32) (hal:args.all (rightA d op)=false) :
  Calls Tryz.prog 16 #[.int .i64 d,.agg #[.string ⟨lab.toArray⟩,.bool colon,.string ⟨op.toArray⟩,v]] w fun e w'=>e=.returned (.int .i64 2)/\Below w.heap.size w w':=by
 have HKn:=LH (fun W=>known_any d W)
 have HPl:=LH (fun W (hW:GWL W)=>Plain_any d lab W (by have:=hf.1;simp only at this;omega) hW)
 have HGr:=LH (fun W=>great_any op W (by have:=hf.2.1;simp only at this;omega))
 have HSe:=LH (fun W=>sets_any op W)
 have HCo:=LH (fun bd bs W (hW:Below w.heap.size w W) h1 h2=>acont_any d op args v bd bs W (hg.below hW) hf.2.2 (hs.at hW hW.size) h1 h2)
 obtain ⟨A,c,rfl,hc,hm⟩:=hs.form
 unfold maxLen at hm
 clear hs hf
 rw [hk] at HKn
 have l1:(lab == [])=false:=by simpa using hl
 have l2:lab.isEmpty=false:=by simpa using hl
 rw [hp] at HPl
 have o1:(op == [])=false:=by simpa using ho
 have o2:op.isEmpty=false:=by simpa using ho
 rw [hgr] at HGr
 rw [hse] at HSe
 rw [hal] at HCo
 simp only [Bool.not_false] at HCo
 subst hcl
 clear hk hl hp ho hgr hse hal
 go_enter Tryz.func16, Tryz.ntmps16
 go_wp2_with fail
 refine (HKn.out _).mono ?_
 rintro e w0 ⟨rfl,rfl⟩
 go_wp2_with fail
 refine (HPl.out _ (hg.below (((Below.refl _ _).alloc (Nat.le_refl _) _).alloc (by simp) _))).mono ?_
 rintro e w1 ⟨rfl,hb1⟩
 obtain ⟨C0,C1,BB⟩:=boxes hb1
 have HC1:=LH C0
 have HD1:=LH C1
 have HB1:=LH BB
 clear C0 C1 BB hb1
 have d0:=coh (i:=0) HC1.out
 simp at d0
 obtain ⟨s0,s1,s2,s3⟩:=cells4 HD1.out
 go_wp2_with fail
 refine (HGr.out _).mono ?_
 rintro e w2 ⟨rfl,hb2⟩
 have C0:=(hb2.block _ (loh HC1.out)).trans HC1.out
 have C1:=(hb2.block _ (loh HD1.out)).trans HD1.out
 have BB:=bthen HB1.out hb2
 have HC2:=LH C0
 have HD2:=LH C1
 have HB2:=LH BB
 clear C0 C1 BB hb2 d0 s0 s1 s2 s3
 have d0:=coh (i:=0) HC2.out
 simp at d0
 obtain ⟨s0,s1,s2,s3⟩:=cells4 HD2.out
 go_wp2_with fail
 refine (HSe.out _).mono ?_
 rintro e w3 ⟨rfl,hb3⟩
 have C0:=(hb3.block _ (loh HC2.out)).trans HC2.out
 have C1:=(hb3.block _ (loh HD2.out)).trans HD2.out
 have BB:=bthen HB2.out hb3
 have HC3:=LH C0
 have HD3:=LH C1
 have HB3:=LH BB
 clear C0 C1 BB hb3 d0 s0 s1 s2 s3
 have d0:=coh (i:=0) HC3.out
 simp at d0
 obtain ⟨s0,s1,s2,s3⟩:=cells4 HD3.out
 go_wp2_with fail
 have hz4:w.heap.size+1<w3.heap.size:=loh HD3.out
 first | (go_region_with (first | (go_at_call 35;(with_reducible refine (HSe.out _).mono ?_);rintro e1 w4 ⟨rfl,hb4⟩;have t1:=(hb4.cell (p:=⟨w.heap.size+1,1,none⟩) hz4).trans s1))) | fail
 all_goals (
  have C0:=(hb4.block _ (loh HC3.out)).trans HC3.out
  have C1:=(hb4.block _ (loh HD3.out)).trans HD3.out
  have BB:=HB3.out.drew.trans (hb4.mono (by simpa using HB3.out.size))
  have HC4:=LH C0
  have HD4:=LH C1
  have HB4:=LH BB
  clear C0 C1 BB hb4 t1 d0 s0 s1 s2 s3
  have d0:=coh (i:=0) HC4.out
  simp at d0
  obtain ⟨s0,s1,s2,s3⟩:=cells4 HD4.out
  go_wp2_with fail
  refine (HCo.out _ _ _ HB4.out d0 s2).mono ?_
  rintro e w9 ⟨rfl,hb9⟩
  go_wp2_with fail
  go_ret
  exact ⟨rfl,bthen HB4.out hb9⟩)
theorem Right12_any (d:Int) (s:St) (v:Value) (w:World) (hg:GWL w) (hf:fitS s) (hs:ArAt w (· < w.heap.size) v s.args) :
  Calls Tryz.prog 16 #[.int .i64 d,stV s v] w fun e w'=>e=.returned (.int .i64 (rightS d s))/\Below w.heap.size w w':=by
 obtain ⟨lab,colon,op,args⟩:=s
 unfold rightS stV
 simp only at *
 cases hk:knownB d with
 | false=>simpa using Right12_u d lab colon op args v w hg hf hs hk
 | true=>
  by_cases hl:lab = []
  ·by_cases ho:op = []
   ·by_cases ha:args = []
    ·cases hcl:colon with
     | true=>subst hcl hl ho ha;simpa [setsB] using Right12_a3 d [] true [] [] v w hg hf hs hk rfl rfl rfl rfl
     | false=>subst hcl hl ho ha;simpa [setsB] using Right12_a4 d [] false [] [] v w hg hf hs hk rfl rfl rfl rfl
    ·subst hl ho;simpa [ha] using Right12_a2 d [] colon [] args v w hg hf hs hk rfl rfl ha
   ·cases hgr:greatB op with
    | false=>subst hl;simpa [ho] using Right12_a5 d [] colon op args v w hg hf hs hk rfl ho hgr
    | true=>
     cases hse:setsB op with
     | true=>subst hl;simpa [ho] using Right12_a6 d [] colon op args v w hg hf hs hk rfl ho hgr hse
     | false=>
      cases hcl:colon with
      | true=>subst hcl hl;simpa [ho] using Right12_a7 d [] true op args v w hg hf hs hk rfl ho hgr hse rfl
      | false=>
       subst hcl hl
       by_cases hn:32<args.length
       ·simpa [ho,hn] using Right12_a8 d [] false op args v w hg hf hs hk rfl ho hgr hse rfl hn
       ·cases hal:args.all (rightA d op) with
        | true=>simpa [ho,hn] using Right12_a9t d [] false op args v w hg hf hs hk rfl ho hgr hse rfl (by omega) hal
        | false=>simpa [ho,hn] using Right12_a9f d [] false op args v w hg hf hs hk rfl ho hgr hse rfl (by omega) hal
  ·cases hp:plainB d lab with
   | false=>simpa [hl] using Right12_b1 d lab colon op args v w hg hf hs hk hl hp
   | true=>
    by_cases ho:op = []
    ·by_cases ha:args = []
     ·cases hcl:colon with
      | true=>subst hcl ho ha;simpa [setsB,hl] using Right12_b4 d lab true [] [] v w hg hf hs hk hl hp rfl rfl rfl
      | false=>subst hcl ho ha;simpa [setsB,hl] using Right12_b3 d lab false [] [] v w hg hf hs hk hl hp rfl rfl rfl
     ·subst ho;simpa [ha,hl] using Right12_b2 d lab colon [] args v w hg hf hs hk hl hp rfl ha
    ·cases hgr:greatB op with
     | false=>simpa [ho,hl] using Right12_b5 d lab colon op args v w hg hf hs hk hl hp ho hgr
     | true=>
      cases hse:setsB op with
      | true=>
       cases hcl:colon with
       | true=>subst hcl;simpa [ho,hl] using Right12_c1t d lab true op args v w hg hf hs hk hl hp ho hgr hse rfl
       | false=>
        subst hcl
        by_cases hn:32<args.length
        ·simpa [ho,hl,hn] using Right12_c2t d lab false op args v w hg hf hs hk hl hp ho hgr hse rfl hn
        ·cases hal:args.all (rightA d op) with
         | true=>simpa [ho,hl,hn] using Right12_c3tt d lab false op args v w hg hf hs hk hl hp ho hgr hse rfl (by omega) hal
         | false=>simpa [ho,hl,hn] using Right12_c3tf d lab false op args v w hg hf hs hk hl hp ho hgr hse rfl (by omega) hal
      | false=>
       cases hcl:colon with
       | false=>subst hcl;simpa [ho,hl] using Right12_c1f d lab false op args v w hg hf hs hk hl hp ho hgr hse rfl
       | true=>
        subst hcl
        by_cases hn:32<args.length
        ·simpa [ho,hl,hn] using Right12_c2f d lab true op args v w hg hf hs hk hl hp ho hgr hse rfl hn
        ·cases hal:args.all (rightA d op) with
         | true=>simpa [ho,hl,hn] using Right12_c3ft d lab true op args v w hg hf hs hk hl hp ho hgr hse rfl (by omega) hal
         | false=>simpa [ho,hl,hn] using Right12_c3ff d lab true op args v w hg hf hs hk hl hp ho hgr hse rfl (by omega) hal
end Go.Proofs.YtfdcigbompkeoaaGreatDoor
