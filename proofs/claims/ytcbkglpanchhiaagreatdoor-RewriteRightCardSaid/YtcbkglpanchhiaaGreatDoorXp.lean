/- Xp. -/
import Derived.Test.YtcbkglpanchhiaaGreatDoorKe
import Derived.Test.YtcbkglpanchhiaaGreatDoorKa
import Derived.Test.YtcbkglpanchhiaaGreatDoorLaw5a
import Derived.Test.YtcbkglpanchhiaaGreatDoorKd
import Derived.Test.YtcbkglpanchhiaaGreatDoorKg
import Derived.Deep.QuietTactic
import Derived.BigQuiet
import Derived.Test.YtcbkglpanchhiaaGreatDoorKo
namespace Go.Proofs.YtcbkglpanchhiaaGreatDoor
set_option maxHeartbeats 4000000
open Go.RowKit
def RNamesH (x:Ex):Prop:=∀ (d:Nat) (v:Value) (w:World),d ≤ 24 → rightE x d=true → SubAt w (· < w.heap.size) v x.sub →
 Calls Tryz.prog 11 #[.agg #[.string ⟨x.op.toArray⟩,.int .u16 x.n,.string ⟨x.name.toArray⟩,v]] w fun e w'=>∃ v',e=.returned v'∧Rd w' w'.heap.size v' (namesE x).length ((namesE x).map strV)∧Below w.heap.size w w'
theorem rnames_leaf (m:List UInt8) (n:Nat) (v:Value) (w:World) (hs:SubAt w (· < w.heap.size) v []) :
  Calls Tryz.prog 11 #[.agg #[.string ⟨#[110]⟩,.int .u16 n,.string ⟨m.toArray⟩,v]] w fun e w'=>∃ v',e=.returned v'∧Rd w' w'.heap.size v' 1 [.string ⟨m.toArray⟩]∧Below w.heap.size w w':=by
 obtain ⟨A,c,rfl,hc,hm⟩:=hs.form
 have hb:=(Below.refl w.heap.size w).alloc (Nat.le_refl _) (.cells #[.string ⟨#[110]⟩,.int .u16 n,.string ⟨m.toArray⟩,.slice A 0 c] 36)
 have hn:=heap_alloc_new w (.cells #[.string ⟨#[110]⟩,.int .u16 n,.string ⟨m.toArray⟩,.slice A 0 c] 36)
 have HN:=LH hn
 clear hs hn
 go_enter Tryz.func11, Tryz.ntmps11
 go_wp2_with (at_builtin;refine wpList_append_at (w.alloc (.cells #[.string ⟨#[110]⟩,.int .u16 n,.string ⟨m.toArray⟩,.slice A 0 c] 36)) (w.heap.size + 1) (by simp) rfl _ _ 31 rfl (w.heap.size + 1) 9 _ 1 16 Tryz.underlying31 info_str rfl (by decide) (World.ownsRow_nil _ _ _ _) rfl [.string ⟨m.toArray⟩] 9 rfl rfl (one_str _) (by omega) (by omega) (by simp) ?_)
 intro v' w2 hown3 hb3
 have hb4:=LH (hb.trans (hb3.mono (Nat.le_succ _)))
 have c3:w2.cell? ⟨w.heap.size,3,none⟩=some (.slice A 0 c):=(hb3.cell (p:=⟨w.heap.size,3,none⟩) (Nat.lt_succ_self _)).trans (coh HN.out)
 have HO:=LH (Rd.of_own hown3)
 clear hown3 hb3 hb
 go_wp2_with fail
 go_loop [3,4] (fun o i=>o=v'∧i=.int .i64 0) (fun _ _=>0)
 case atStart=>exact ⟨rfl,rfl⟩
 case round=>
  obtain ⟨rfl,rfl⟩:=hrel
  go_wp2_with fail
  go_ret
  exact ⟨_,rfl,HO.out,hb4.out⟩
theorem rnames_node (o:List UInt8) (n:Nat) (m:List UInt8) (s:List Ex) (ho:(o == [110])=false) (d:Nat) (hd:d ≤ 24) (hr:∀ x ∈ s,rightE x d=true) (hlen:(namesL s).length ≤ 100000000) (ih:∀ x ∈ s,RNamesH x) (v:Value) (w:World) (hs:SubAt w (· < w.heap.size) v s) :
  Calls Tryz.prog 11 #[.agg #[.string ⟨o.toArray⟩,.int .u16 n,.string ⟨m.toArray⟩,v]] w fun e w'=>∃ v',e=.returned v'∧Rd w' w'.heap.size v' (namesL s).length ((namesL s).map strV)∧Below w.heap.size w w':=by
 obtain ⟨A,c,rfl,hc,hm⟩:=hs.form
 unfold maxLen at hm
 have HS:=LH hs
 have HI:=LH ih
 have HR:=LH hr
 clear hs ih hr
 go_enter Tryz.func11, Tryz.ntmps11
 go_wp2_with fail
 go_loopw [3,4] (fun v i wr=>∃ k:Nat,k ≤ s.length∧i=.int .i64 k∧wr.ownsRow (w.heap.size + 1) 9 1 v (namesL (s.take k)).length ((namesL (s.take k)).map strV)∧Below (w.heap.size + 1) (w.alloc (.cells #[.string ⟨o.toArray⟩,.int .u16 n,.string ⟨m.toArray⟩,.slice A s.length c] 36)) wr) (fun _ i _=>s.length - (intOf i).toNat)
 case atStart=>exact ⟨0,Nat.zero_le _,rfl,World.ownsRow_nil _ _ _ _,Below.refl _ _⟩
 case round=>
  obtain ⟨k,hk,rfl,hown,hB⟩:=hrel
  have hz:w.heap.size + 1 ≤ wr.heap.size:=by have:=hB.size;simpa using this
  have hb:Below w.heap.size w wr:=((Below.refl _ _).alloc (Nat.le_refl _) _).trans (hB.mono (by omega))
  have HB:=LH hB
  have hsz:=hb.size
  have e3:=box_at hB 3 _ rfl
  clear hB
  by_cases hlt:k < s.length
  ·obtain ⟨g,q,vk,rfl,hg,c0,c1,c2,c3,hsub,hn,_,_⟩:=HS.out.get k hlt
   obtain ⟨vA,vc,rfl,_,_⟩:=hsub.form
   have d0:=(hb.cell (p:=⟨g,q + k * 4,none⟩) hg).trans c0
   have d1:=(hb.cell (p:=⟨g,q + k * 4 + 1,none⟩) hg).trans c1
   have d2:=(hb.cell (p:=⟨g,q + k * 4 + 2,none⟩) hg).trans c2
   have d3:=(hb.cell (p:=⟨g,q + k * 4 + 3,none⟩) hg).trans c3
   have hgr:g < wr.heap.size:=Nat.lt_of_lt_of_le hg hsz
   have HSK:=LH ((hsub.bel hb).more (S':=(· < wr.heap.size)) (fun x hx=>Nat.lt_of_lt_of_le hx hsz))
   have HC:Hid (Calls Tryz.prog 11 #[.agg #[.string ⟨s[k].op.toArray⟩,.int .u16 s[k].n,.string ⟨s[k].name.toArray⟩,.slice vA s[k].sub.length vc]] wr fun e w'=>∃ v',e=.returned v'∧Rd w' w'.heap.size v' (namesE s[k]).length ((namesE s[k]).map strV)∧Below wr.heap.size wr w'):=LH (HI.out s[k] (List.getElem_mem hlt) d _ _ hd (HR.out _ (List.getElem_mem hlt)) HSK.out)
   have HT:Hid (namesL (s.take (k + 1))=namesL (s.take k) ++ namesE s[k]):=LH (by rw [List.take_succ_eq_append_getElem hlt,namesL_app];simp [namesL])
   have hl1:=Nat.le_trans (namesL_take s (k + 1)) hlen
   rw [HT.out,List.length_append] at hl1
   generalize s[k]=x at *
   clear c0 c1 c2 c3 hsub
   go_wp2_with fail
   refine HC.out.mono ?_
   rintro e0 w5 ⟨v5,rfl,hrd5,hb5⟩
   obtain ⟨A5,c5,rfl,hc5⟩:=hrd5.form
   have hown2:=hown.kept (only_of_below hb5 none) (by cases u3.ownBlock <;> simp)
   have hb6:=bthen hb hb5
   have hz6:w.heap.size + 1 ≤ w5.heap.size:=by have:=hb5.size;omega
   go_wp2_with (at_builtin;refine wpList_append_rd w5 rfl _ _ 31 rfl (w.heap.size + 1) 9 _ 1 16 Tryz.underlying31 info_str rfl (by decide) hown2 rfl hrd5 rfl (by simp) (strs_one _) (by omega) (by omega) hz6 ?_)
   intro v' w7 hown7 hb7 hgr7
   have H7:Hid (w7.ownsRow (w.heap.size + 1) 9 1 v' (namesL (s.take (k + 1))).length ((namesL (s.take (k + 1))).map strV)):=LH (by rw [HT.out,List.map_append,List.length_append];exact hown7)
   have hb8:=(HB.out.trans (hb5.mono hz)).trans hb7
   clear hown hown2 hown7 hgr7 hb7 hb6 hrd5
   go_wp2_with fail
   go_roundw
   case rel=>exact ⟨k + 1,by omega,by go_num,H7.out,hb8⟩
   case measure=>simp [intOf];omega
  ·obtain rfl:k=s.length:=by omega
   rw [List.take_length] at hown
   have HO:=LH (Rd.of_own hown)
   clear hown
   go_wp2_with fail
   go_ret
   exact ⟨_,rfl,HO.out,hb⟩
theorem RNames_any (e:Ex):RNamesH e:=by
 induction e using Ex.ind with
 | h o n m s ih=>
  intro d v w hd h hs
  have hl:=names_len _ d h
  have hp:2 ^ d ≤ 2 ^ 24:=Nat.pow_le_pow_right (by omega) hd
  have hf:=rightE.form h
  cases hf with
  | num n d=>exact rnames_node sNum n [] [] (by decide) d (by omega) (by simp) (by simp [namesL]) (by simp) v w hs
  | name m d=>exact rnames_leaf m 0 v w hs
  | here d=>exact rnames_node sHere 0 [] [] (by decide) d (by omega) (by simp) (by simp [namesL]) (by simp) v w hs
  | neg a d hA=>exact rnames_node sNEG 0 [] [a] (by decide) d (by omega) (by simpa using hA) (by simp [namesE] at hl;omega) ih v w hs
  | not a d hA=>exact rnames_node sNOT 0 [] [a] (by decide) d (by omega) (by simpa using hA) (by simp [namesE] at hl;omega) ih v w hs
  | two o r a b d ho h1 h2=>
   have hn:=ho.binds.2.2.1
   have e1:namesE (.mk o 0 [] [a,b])=namesL [a,b]:=by simp [namesE,hn]
   have:=rnames_node o 0 [] [a,b] (by simpa using hn) d (by omega) (by simp [h1,h2]) (by rw [e1] at hl;omega) ih v w hs
   rw [e1]
   exact this
end Go.Proofs.YtcbkglpanchhiaaGreatDoor
