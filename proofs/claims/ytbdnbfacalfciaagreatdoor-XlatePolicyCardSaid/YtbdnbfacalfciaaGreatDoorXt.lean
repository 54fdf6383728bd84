/- Xt. -/
import Derived.Test.YtbdnbfacalfciaaGreatDoorXl10
namespace Go.Proofs.YtbdnbfacalfciaaGreatDoor
open Go.RowKit
def ex0B:Ex->Bool
 | .mk [] 0 [] []=>true
 | _=>false
theorem ex0B_of {e:Ex} (h:ex0B e=true):e=ex0:=by
 unfold ex0B at h
 split at h
 ·rfl
 ·cases h
def lnB (n:Nat) (l:Lin):Bool:=decide (1<=l.n) && decide (l.n<=n) && decide (l.kind<=3) && (!(l.kind == 1) || decide (0<l.b.length)) && decide (l.v<=65535) && (!(l.kind == 1) || !(bits .and .u8 (opL0 l:Nat) 199 == 199)) && decide (l.b.length<=3) && decide (l.pl<=65535)
theorem lnB_of {src:List St} {l:Lin} (h:lnB src.length l=true):LnOk src l/\LnRd l:=by
 unfold lnB at h
 simp only [Bool.and_eq_true,Bool.or_eq_true,decide_eq_true_eq,Bool.not_eq_true',beq_eq_false_iff_ne,ne_eq] at h
 obtain ⟨⟨⟨⟨⟨⟨⟨h1,h2⟩,h3⟩,h4⟩,h5⟩,h6⟩,h7⟩,h8⟩:=h
 exact ⟨⟨h1,h2,h3,fun k=>h4.resolve_left (fun h=>h k),h5,fun k=>by rw [beq_eq_false_iff_ne];exact h6.resolve_left (fun h=>h k)⟩,⟨fun k=>h4.resolve_left (fun h=>h k),h7,h8⟩⟩
def stB (s:St):Bool:=s.args.all fun a=>(rightE a.e 24 || ex0B a.e) && (namesE a.e).all (fun m=>decide (m.length<=1000)) && decide ((namesE a.e).length<=1000)
theorem stB_of {s:St} (h:stB s=true):StNm s:=by
 intro a ha
 unfold stB at h
 rw [List.all_eq_true] at h
 have h1:=h a ha
 simp only [Bool.and_eq_true,Bool.or_eq_true,List.all_eq_true,decide_eq_true_eq] at h1
 exact ⟨h1.1.1.imp id ex0B_of,h1.1.2,by omega⟩
def riseB (l:List Nd):Bool:=(List.range l.length).all fun i=>decide ((l.getD i ⟨0,0,0⟩).pl<=(l.getD (i+1) ⟨65535,0,0⟩).pl) || decide (l.length<=i+1)
theorem riseB_of {l:List Nd} (h:riseB l=true):Rise l:=by
 intro i hi
 unfold riseB at h
 rw [List.all_eq_true] at h
 have h1:=h i (List.mem_range.2 (by omega))
 simp only [Bool.or_eq_true,decide_eq_true_eq] at h1
 have h2:=h1.resolve_right (by omega)
 rw [List.getD_eq_getElem?_getD,List.getD_eq_getElem?_getD,List.getElem?_eq_getElem (by omega),List.getElem?_eq_getElem hi] at h2
 exact h2
def hasX (ls:List Lin):List Nat:=(nodesL ls).map (·.pl)
def chkX (eg:Eg) (l:List St) (r:Nat × Nat):Bool:=eg.lines.all (lnB l.length) && l.all stB && decide (eg.lines.length<=12) && riseB (nodesL eg.lines) && decide (eg.syms.length<=1000) && eg.syms.all (fun x=>decide (x.1.length<=1000) && decide (x.2.1<=65535)) && decide (eg.entry<=65535) &&
 probX eg.lines l (hasX eg.lines) (codeX eg.syms (hasX eg.lines)) (nodesL eg.lines).length eg.entry == r
structure XOk (eg:Eg) (l:List St) (r:Nat × Nat):Prop where
 ln:∀ x∈eg.lines,LnOk l x
 rd:∀ x∈eg.lines,LnRd x
 st:∀ s∈l,StNm s
 few:eg.lines.length<=12
 rise:Rise (nodesL eg.lines)
 sy:eg.syms.length<=1000/\∀ x∈eg.syms,x.1.length<=1000/\x.2.1<=65535
 en:eg.entry<=65535
 pr:probX eg.lines l (hasX eg.lines) (codeX eg.syms (hasX eg.lines)) (nodesL eg.lines).length eg.entry=r
theorem chkX_of {eg:Eg} {l:List St} {r:Nat × Nat} (h:chkX eg l r=true):XOk eg l r:=by
 unfold chkX at h
 simp only [Bool.and_eq_true,List.all_eq_true,decide_eq_true_eq,beq_iff_eq] at h
 obtain ⟨⟨⟨⟨⟨⟨⟨h1,h2⟩,h3⟩,h4⟩,h5⟩,h6⟩,h7⟩,h8⟩:=h
 exact ⟨fun x hx=>(lnB_of (h1 x hx)).1,fun x hx=>(lnB_of (src:=l) (h1 x hx)).2,fun s hs=>stB_of (h2 s hs),h3,riseB_of h4,⟨h5,h6⟩,h7,h8⟩
theorem probX_same (ls:List Lin) (src:List St) (has:List Nat) (c c':List (List UInt8)) (nn entry:Nat) (h:∀ s,s∈c ↔ s∈c'):probX ls src has c nn entry=probX ls src has c' nn entry:=by
 have e:usesL c src=usesL c' src:=by
  funext l
  unfold usesL
  congr 2
  funext a
  congr 1
  funext s
  simp [h s]
 unfold probX
 rw [e]
theorem LiRowV.lnr {w:World} {B base n c:Nat} {T:TypeId} {A:Option Addr} {ls:List Lin} {vs:List Value} (h:LiRowV w B T base (.slice A n c) ls vs):LnR w w.heap.size (.slice A n c) ls:=by
 obtain ⟨A',c',e1,hc,_,hrow⟩:=own_slice h.2.1 (by decide)
 injection e1 with e1 e2 e3
 subst e1 e2 e3
 refine ⟨A,c,fun i=>match vs[i]? with | some (.agg a)=>a.getD 0 undef | _=>undef,fun i=>match vs[i]? with | some (.agg a)=>a.getD 1 undef | _=>undef,rfl,hc,fun h0=>?_,fun i hi=>?_⟩
 ·obtain ⟨g,rfl,_,hg,_,_⟩:=hrow h0
  refine ⟨g,0,rfl,hg,fun i hi j u hu=>?_⟩
  obtain ⟨g',bA,bc,sA,sc,e5,_,hv,_,_⟩:=h.get i hi
  simp only [hv] at hu
  obtain ⟨g2,hg2,_,_,_,hcell⟩:=hrow h0
  injection hg2 with hg2
  injection hg2 with hg2
  subst hg2
  rw [Nat.zero_add]
  exact hcell _ _ (rowV_get liCells_len ls vs h.1 i hi j u (by rw [List.getD_eq_getElem?_getD,hv];exact hu))
 ·obtain ⟨g',bA,bc,sA,sc,e5,_,hv,hb,_⟩:=h.get i hi
  simp only [hv]
  refine ⟨?_,sA,sc,rfl⟩
  exact hb.keep (fun _ _=>rfl) (fun k hk=>hk.2)
abbrev xa:List UInt8:=[99,111,100,101,58,32,110,111,112,10,108,120,105,32,104,44,99,111,100,101,10,104,108,116]
theorem xa_ok:(asmF fd80 0 xa).2=(0,0)/\chkX (asmF fd80 0 xa).1 (srcS 0 xa).1 (2,9)=true:=by decide +kernel
abbrev xb:List UInt8:=[99,111,100,101,58,32,110,111,112,10,112,99,104,108]
theorem xb_ok:(asmF fd80 0 xb).2=(0,0)/\chkX (asmF fd80 0 xb).1 (srcS 0 xb).1 (2,10)=true:=by decide +kernel
abbrev xc:List UInt8:=[106,109,112,32,49,10,104,108,116]
theorem xc_ok:(asmF fd80 0 xc).2=(0,0)/\chkX (asmF fd80 0 xc).1 (srcS 0 xc).1 (1,10)=true:=by decide +kernel
abbrev xd:List UInt8:=[108,120,105,32,104,44,100,97,116,97,10,104,108,116,10,100,97,116,97,58,32,100,98,32,53]
theorem xd_ok:(asmF fd80 0 xd).2=(0,0)/\chkX (asmF fd80 0 xd).1 (srcS 0 xd).1 (0,0)=true:=by decide +kernel
abbrev xe:List UInt8:=[110,111,112,10,104,108,116,10,101,110,100,32,53]
theorem xe_ok:(asmF fd80 0 xe).2=(0,0)/\chkX (asmF fd80 0 xe).1 (srcS 0 xe).1 (0,10)=true:=by decide +kernel
abbrev xf:List UInt8:=[99,111,100,101,58,32,104,108,116,10,100,119,32,99,111,100,101]
theorem xf_ok:(asmF fd80 0 xf).2=(0,0)/\chkX (asmF fd80 0 xf).1 (srcS 0 xf).1 (2,9)=true:=by decide +kernel
abbrev x0:List UInt8:=[105,110,120,32,104,10,104,108,116]
theorem x0_ok:(asmF fd80 0 x0).2=(0,0)/\chkX (asmF fd80 0 x0).1 (srcS 0 x0).1 (0,0)=true:=by decide +kernel
theorem xd_nd:nodesL (asmF fd80 0 xd).1.lines = [⟨0,33,4⟩,⟨3,118,0⟩]/\(asmF fd80 0 xd).1.entry=0:=⟨by kernel_rfl,by kernel_rfl⟩
theorem x0_nd:nodesL (asmF fd80 0 x0).1.lines = [⟨0,35,0⟩,⟨1,118,0⟩]/\(asmF fd80 0 x0).1.entry=0:=⟨by kernel_rfl,by kernel_rfl⟩
end Go.Proofs.YtbdnbfacalfciaaGreatDoor
