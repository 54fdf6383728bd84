/- PureLn5. -/
import Derived.Test.YtbdnbfacalfciaaGreatDoorKo
import Derived.Test.YtbdnbfacalfciaaGreatDoorKb
namespace Go.Proofs.YtbdnbfacalfciaaGreatDoor
theorem wordB_len (d:Int) (s:List UInt8) (h:wordB d s=true):s.length<=1000:=by
 have hz:∀ x∈memZ,x.length<=1000:=by decide +kernel
 have h8:∀ x∈mem8,x.length<=1000:=by decide +kernel
 unfold wordB at h
 rw [Bool.or_eq_true] at h
 rcases h with h | h
 ·rcases mem_form d s h with ⟨_,h⟩ | ⟨_,h⟩
  ·exact hz s h
  ·exact h8 s h
 ·rw [Bool.and_eq_true] at h
  have:=res_great d s h.1
  unfold greatB nameB at this
  simp at this
  omega
theorem getD_small {ts:List Tok} (h:okT ts) (i:Nat):(ts.getD i tok0).2.1.length<=1000:=by
 rw [List.getD_eq_getElem?_getD]
 rcases Nat.lt_or_ge i ts.length with hi | hi
 ·rw [List.getElem?_eq_getElem hi]
  exact (h _ (List.getElem_mem hi)).2
 ·rw [List.getElem?_eq_none hi];decide
theorem operand_fit (d:Int) (op:List UInt8) (ts:List Tok) (h:okT ts):fitA (operandL d op ts).1:=by
 have h0:fitE ex0=true:=fit_ex0
 unfold operandL
 split
 ·exact ⟨by decide,by decide,h0⟩
 ·split
  ·exact ⟨by simp,getD_small h 0,h0⟩
  ·split
   ·exact ⟨getD_small h 0,by simp,h0⟩
   ·split
    ·split
     ·rename_i hw
      exact ⟨wordB_len d _ hw.2.2,by simp,h0⟩
     ·exact ⟨by simp,by simp,all_fit _ (mid_ok h)⟩
    ·exact ⟨by simp,by simp,all_fit _ h⟩
theorem args_fit (d:Int) (op:List UInt8) (ps:List (List Tok)) (h:∀ p∈ps,okT p):∀ acc,(∀ a∈acc,fitA a)->∀ a∈(argsL d op ps acc).1,fitA a:=by
 induction ps with
 | nil=>intro acc ha;simpa [argsL] using ha
 | cons p r ih=>
  intro acc ha
  unfold argsL
  split
  ·simp
  ·refine ih (fun q hq=>h q (by simp [hq])) _ (fun a haa=>?_)
   rcases List.mem_append.1 haa with haa | haa
   ·exact ha a haa
   ·simp at haa;subst haa;exact operand_fit d op p (h p (by simp))
theorem cutF_ok (sep:List UInt8) (ts:List Tok):∀ n cur acc,okT ts->okT cur->(∀ p∈acc,okT p)->∀ p∈cutF sep ts n cur acc,okT p:=by
 induction ts with
 | nil=>
  intro n cur acc _ hc ha p hp
  rcases List.mem_append.1 (show p∈acc++[cur] from hp) with hp | hp
  ·exact ha p hp
  ·simp at hp;subst hp;exact hc
 | cons t r ih=>
  intro n cur acc ht hc ha p hp
  have hr:okT r:=fun x hx=>ht x (by simp [hx])
  rw [cutF_cons sep t r n cur acc _ _ _ rfl rfl rfl _ rfl] at hp
  generalize (if isT t [[41],[93]]=true then n - 1 else n)=d1 at hp
  by_cases hc2:(isT t [sep] && d1 == 0)=true
  ·rw [if_pos hc2] at hp
   refine ih _ _ _ hr (fun x hx=>by simp at hx) (fun q hq=>?_) p hp
   rcases List.mem_append.1 hq with hq | hq
   ·exact ha q hq
   ·simp at hq;subst hq;exact hc
  ·rw [if_neg hc2] at hp
   refine ih _ _ _ hr (fun x hx=>?_) ha p hp
   rcases List.mem_append.1 hx with hx | hx
   ·exact hc x hx
   ·simp at hx;subst hx;exact ht x (by simp)
theorem cutL_ok (sep:List UInt8) (ts:List Tok) (h:okT ts):∀ p∈cutL sep ts,okT p:=by
 unfold cutL
 split
 ·simp
 ·exact cutF_ok sep ts 0 [] [] h (fun x hx=>by simp at hx) (fun p hp=>by simp at hp)
theorem fit_st0:fitS st0:=⟨by decide,by decide,fun a ha=>by simp [st0] at ha⟩
theorem endS_fit (d:Int) (s:St) (h:fitS s):fitS (endS d s).1:=by
 unfold endS
 split
 ·exact fit_st0
 ·exact h
theorem body_fit (d:Int) (lab:List UInt8) (colon:Bool) (r:List Tok) (hl:lab.length<=1000) (h:okT r):fitS (bodyS d lab colon r).1:=by
 unfold bodyS
 split
 ·exact endS_fit d _ ⟨hl,by simp,fun a ha=>by simp at ha⟩
 ·split
  ·exact fit_st0
  ·split
   ·exact fit_st0
   ·split
    ·exact fit_st0
    ·exact endS_fit d _ ⟨hl,getD_small h 0,args_fit d _ _ (cutL_ok _ _ (h.drop 1)) _ (fun a ha=>by simp at ha)⟩
theorem head_ok (l:List Tok) (h:okT l):(headS l).1.length<=1000/\okT (headS l).2.2:=by
 unfold headS
 split
 ·exact ⟨getD_small h 0,h.drop 2⟩
 ·split
  ·exact ⟨getD_small h 0,h.drop 1⟩
  ·exact ⟨by simp,h⟩
theorem parse_fitS (d:Int) (s:List UInt8):fitS (parseS d s).1:=by
 unfold parseS
 split
 ·exact fit_st0
 ·split
  ·exact fit_st0
  ·exact body_fit d _ _ _ (head_ok _ (lineL_small s)).1 (head_ok _ (lineL_small s)).2
theorem head_count (l:List Tok):(headS l).2.2.length<=l.length:=by
 unfold headS
 split
 ·simp
 ·split
  ·simp
  ·simp
end Go.Proofs.YtbdnbfacalfciaaGreatDoor
