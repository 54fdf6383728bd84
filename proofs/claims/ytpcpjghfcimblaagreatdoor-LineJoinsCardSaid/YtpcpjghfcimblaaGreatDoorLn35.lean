/- line: Source. -/
import Derived.Test.YtpcpjghfcimblaaGreatDoorLn34
namespace Go.Proofs.YtpcpjghfcimblaaGreatDoor
open Go.RowKit

def SrcP (w : World) (res : List St × Nat × Nat) (e : Ending) (w' : World) : Prop :=
  ∃ v, e = .returned (.tuple #[v, .agg #[.int .i64 res.2.1, .int .i64 res.2.2]]) ∧ StAt w' (fun g => w.heap.size ≤ g ∧ g < w'.heap.size) v res.1 ∧ Below w.heap.size w w'
/-- The lines in memory, in a block below B. -/
def LinesAt (w : World) (B : Nat) (v : Value) (ls : List (List UInt8)) : Prop := ∃ g c, v = .slice (some ⟨g, 0, none⟩) ls.length c ∧ ls.length ≤ c ∧ g < B ∧ ∀ j (hj : j < ls.length), w.cell? ⟨g, j, none⟩ = some (strV ls[j])
def SrcR (wl : World) (d : Int) (ls : List (List UInt8)) (R : List St × Nat × Nat) (k : Nat) (v4 : Value) (wr : World) : Prop :=
  ∃ acc us, acc.length = k ∧ readL (parseCr d) (ls.drop k) k acc = R ∧ Below wl.heap.size wl wr ∧ StOwn wr wl.heap.size v4 acc us
theorem readL_step (p : List UInt8 → St × Nat) (ls : List (List UInt8)) (k : Nat) (hk : k < ls.length) (acc : List St) : readL p (ls.drop k) k acc = if (p ls[k]).2 ≠ 0 then ([], k + 1, (p ls[k]).2) else readL p (ls.drop (k + 1)) (k + 1) (acc ++ [(p ls[k]).1]) := by
  rw [List.drop_eq_getElem_cons hk, readL]
theorem stCells_one (a : St) (v : Value) (h : v.oneCell' = true) : ∀ u ∈ stCells a v, u.oneCell' = true := by
  intro u hu
  simp [stCells] at hu
  rcases hu with rfl | rfl | rfl | rfl <;> first | rfl | exact h
theorem split_new (s : List UInt8) (w : World) (hg : GW w) (hl : s.length ≤ 1000000) :
    Calls Tryz.prog 21 #[.string ⟨s.toArray⟩, .string ⟨#[10]⟩] w fun e w' => e = .returned (.slice (some ⟨w.heap.size, 0, none⟩) (splitNl s []).length (splitNl s []).length) ∧ Below w.heap.size w w' ∧ w.heap.size < w'.heap.size ∧ ∀ j (hj : j < (splitNl s []).length), w'.cell? ⟨w.heap.size, j, none⟩ = some (strV (splitNl s [])[j]) := by
  refine (split_any s w hg hl).mono ?_
  rintro e w' ⟨rfl, rfl⟩
  refine ⟨rfl, (Below.refl _ _).alloc (Nat.le_refl _) _, by simp, fun j hj => ?_⟩
  exact new_at w _ _ j _ (by rw [List.getElem?_map, List.getElem?_eq_getElem hj]; rfl)
theorem last_get2 (sp : List (List UInt8)) (h : 0 < sp.length) : sp[sp.length - 1] = sp.getLastD [] := by
  rw [List.getLastD_eq_getLast?, List.getLast?_eq_getElem?, List.getElem?_eq_getElem (by omega)]; rfl
set_option maxHeartbeats 4000000 in
set_option maxRecDepth 100000 in
theorem src12_any (d : Int) (s : List UInt8) (w : World) (hg : GWL w) (hl : s.length ≤ 100000) (out : List St × Nat × Nat) (hout : srcS d s = out) :
    Calls Tryz.prog 8 #[.int .i64 d, .string ⟨s.toArray⟩] w (SrcP w out) := by
  have HK := Lib.hid (fun W => known_any d W)
  have B0 := Lib.hid ((Below.refl w.heap.size w).alloc (Nat.le_refl _) (.cells #[.int .i64 0, .int .i64 0] 26))
  cases hk : knownB d with
  | false =>
    rw [hk] at HK
    have ho : out = ([], 0, 1) := by rw [← hout]; unfold srcS; rw [if_pos hk]
    subst ho
    clear hk hout
    go_enter Tryz.func8, Tryz.ntmps8
    go_wp2_with fail
    refine (HK.out _).mono ?_
    rintro e w1 ⟨rfl, rfl⟩
    go_wp2_with fail
    exact bodyPost_ret (v := .tuple #[.slice none 0 0, .agg #[.int .i64 0, .int .i64 1]]) (by simp [results, Tryz.results8, go_sem]) rfl ⟨_, rfl, StAt.nil _ _, (Below.refl w.heap.size w).alloc (Nat.le_refl _) _⟩
  | true =>
    rw [hk] at HK
    have HRD := Lib.hid ((src_read d hk s hl).symm.trans hout)
    have HC := Lib.hid (fun W => Tryz.strings_Count_one ⟨s.toArray⟩ 10 W)
    have hcl : Lib.countByte (ByteArray.mk s.toArray).data.toList 10 ≤ s.length := by show List.count 10 s ≤ _; exact List.count_le_length
    have HS := Lib.hid (fun W (hW : GW W) => split_new s W hW (by omega))
    have hsl := splitNl_len s []
    have hsp := splitNl_pos s []
    have HLL := Lib.hid (lines_len s)
    have HLE := Lib.hid (lines_each s)
    have HLS : Hid (linesL s = if (splitNl s []).getLastD [] = [] then (splitNl s []).dropLast else splitNl s []) := Lib.hid rfl
    generalize Lib.countByte (ByteArray.mk s.toArray).data.toList 10 = cn at *
    generalize linesL s = ls at *
    generalize splitNl s [] = sp at *
    have hpos : 0 < sp.length := List.length_pos_iff.2 hsp
    have c1 : decide ((2097152 : Int) < (s.length : Int)) = false := by simp; omega
    have c2 : decide ((131072 : Int) < (cn : Int)) = false := by simp; omega
    clear hk hout
    go_enter Tryz.func8, Tryz.ntmps8
    go_wp2_with fail
    refine (HK.out _).mono ?_
    rintro e w1 ⟨rfl, rfl⟩
    go_wp2_with fail
    refine (HC.out _).mono ?_
    rintro e w1 ⟨rfl, rfl⟩
    go_wp2_with fail
    refine (HS.out _ (hg.below B0.out).2).mono ?_
    rintro e w2 ⟨rfl, hb2, hw2, hc2⟩
    rw [show (w.alloc (.cells #[.int .i64 0, .int .i64 0] 26)).heap.size = w.heap.size + 1 by simp] at hc2 hw2
    have B2 := Lib.hid (bthen B0.out hb2)
    have C2 := Lib.hid ((hb2.block w.heap.size (by simp)).trans (heap_alloc_new w _))
    have HCE := Lib.hid hc2
    have hlast : w2.cell? ⟨w.heap.size + 1, sp.length - 1, none⟩ = some (.string ⟨(sp.getLastD []).toArray⟩) := by rw [← last_get2 sp hpos]; exact hc2 _ (by omega)
    have HD := Lib.hid (show sp.dropLast = sp.take (sp.length - 1) from List.dropLast_eq_take)
    generalize sp.getLastD [] = lst at *
    clear hb2 hc2 HS HC HK
    go_upto_if 34 with (fail)
    go_cut [6] (fun v6 wx => wx = w2 ∧ LinesAt w2 w2.heap.size v6 ls)
    case first =>
      by_cases h0 : lst = []
      · have hls := HLS.out.trans (if_pos h0)
        subst h0
        have HX : Hid (LinesAt w2 w2.heap.size (.slice (some ⟨w.heap.size + 1, 0, none⟩) (sp.length - 1) sp.length) ls) := Lib.hid (by
          rw [hls, HD.out]
          refine ⟨w.heap.size + 1, sp.length, by simp, by simp, by omega, fun j hj => ?_⟩
          rw [List.length_take] at hj
          rw [List.getElem_take]
          exact HCE.out j (by omega))
        clear hls
        go_wp2_with fail
        go_meet
        exact ⟨rfl, HX.out⟩
      · have hls := HLS.out.trans (if_neg h0)
        obtain ⟨x0, r0, rfl⟩ : ∃ x0 r0, lst = x0 :: r0 := by cases lst with
          | nil => exact absurd rfl h0
          | cons a b => exact ⟨a, b, rfl⟩
        have HX : Hid (LinesAt w2 w2.heap.size (.slice (some ⟨w.heap.size + 1, 0, none⟩) sp.length sp.length) ls) := Lib.hid (by
          rw [hls]
          exact ⟨w.heap.size + 1, sp.length, rfl, Nat.le_refl _, by omega, HCE.out⟩)
        clear hls h0
        go_wp2_with fail
        go_meet
        exact ⟨rfl, HX.out⟩
    case rest =>
      obtain ⟨hwc, g6, c6, rfl, hc6, hg6, hcell⟩ := hcut
      subst hwc
      have HCL := Lib.hid hcell
      have HLC := Lib.hid (show readL (parseCr d) (ls.drop 0) 0 [] = out from HRD.out)
      have c3 : decide ((131072 : Int) < (ls.length : Int)) = false := by have := HLL.out; simp; omega
      have hln : ls.length ≤ 100001 := by have := HLL.out; omega
      clear hcell HRD HLS HD HCE hlast hsl hsp hpos c1 c2 hcl
      go_wp2_with fail
      go_loopw [4, 44] (fun v4 i wr => ∃ k : Nat, k ≤ ls.length ∧ i = .int .i64 k ∧ SrcR wc d ls out k v4 wr) (fun _ i _ => ls.length - (intOf i).toNat)
      case atStart => exact ⟨0, Nat.zero_le _, rfl, [], [], rfl, HLC.out, Below.refl _ _, OwnV.nil _ _⟩
      case round =>
        obtain ⟨k, hk, rfl, acc, us, hal, harg, hbw, hown⟩ := hrel
        have HAL := Lib.hid hal
        have HARG := Lib.hid harg
        have BL := Lib.hid hbw
        have OW := Lib.hid hown
        have hBl : w.heap.size < wc.heap.size := by omega
        have BW := Lib.hid (B2.out.trans (hbw.mono (Nat.le_of_lt hBl)))
        have C5 := Lib.hid ((hbw.block _ hBl).trans C2.out)
        have hsz : wc.heap.size ≤ wr.heap.size := hbw.size
        obtain ⟨vA, vc, rfl, hvc, hvm, _⟩ := own_slice hown.2.1 (by omega)
        have x0 := cell_of_heap (i := 0) C5.out
        have x1 := cell_of_heap (i := 1) C5.out
        have z0 := frozen_of_heap (i := 0) C5.out
        have z1 := frozen_of_heap (i := 1) C5.out
        simp at x0 x1 z0 z1
        clear hal harg hbw hown HLC
        by_cases hlt : k < ls.length
        · have hcl := (BL.out.cell (p := ⟨g6, k, none⟩) hg6).trans (HCL.out k hlt)
          have hll : ls[k].length ≤ 100000 := Nat.le_trans (HLE.out _ (List.getElem_mem hlt)) hl
          have HCR := Lib.hid (fun W => cr_any ls[k] W (by omega))
          have HPA := Lib.hid (parse12_any d (crL ls[k]) wr (hg.below BW.out) (Nat.le_trans (crL_len _) (by omega)))
          have HST := Lib.hid ((readL_step (parseCr d) ls k hlt acc).symm.trans HARG.out)
          unfold parseCr at HST
          unfold strV at hcl
          generalize parseS d (crL ls[k]) = res at *
          generalize crL ls[k] = cl at *
          generalize ls[k] = l at *
          obtain ⟨a, ka⟩ := res
          clear HARG
          go_wp2_with fail
          refine (HCR.out _).mono ?_
          rintro e w1 ⟨rfl, rfl⟩
          go_wp2_with fail
          refine HPA.out.mono ?_
          rintro e w7 ⟨va, rfl, hat, hb7⟩
          obtain ⟨sA, sc, rfl, hsc, hsm⟩ := hat.form
          have B7 := Lib.hid (bthen BW.out hb7)
          have BE7 := Lib.hid hb7
          have SA := Lib.hid hat
          have hBr : w.heap.size < wr.heap.size := lt_of_heap C5.out
          have C7 := Lib.hid ((hb7.block _ hBr).trans C5.out)
          have hB7 : w.heap.size < w7.heap.size := lt_of_heap C7.out
          clear hb7 hat HPA HCR hcl x0 x1 z0 z1
          have x0 := cell_of_heap (i := 0) C7.out
          have x1 := cell_of_heap (i := 1) C7.out
          have z0 := frozen_of_heap (i := 0) C7.out
          have z1 := frozen_of_heap (i := 1) C7.out
          simp at x0 x1 z0 z1
          by_cases hka : ka = 0
          · subst hka
            have HST2 := Lib.hid ((if_neg (by simp)).symm.trans HST.out)
            have hac : acc.length ≤ 100001 := by have := HAL.out; omega
            have BE8 := Lib.hid ((BE7.out.alloc BE7.out.size (.cells (stCells a (.slice sA a.args.length sc)).toArray 32)).alloc (Nat.le_trans BE7.out.size (by simp)) (.cells (stCells a (.slice sA a.args.length sc)).toArray 32))
            have HO8 := Lib.hid (OwnV.keep stSub_keep OW.out BE8.out).2.1
            have HN8 := Lib.hid (rd_new (w7.alloc (.cells (stCells a (.slice sA a.args.length sc)).toArray 32)) (w7.heap.size + 1) (by simp) (stCells a (.slice sA a.args.length sc)) 32)
            have HS8 := Lib.hid (show stSub ((w7.alloc (.cells (stCells a (.slice sA a.args.length sc)).toArray 32)).alloc (.cells (stCells a (.slice sA a.args.length sc)).toArray 32)) (fun g => wc.heap.size ≤ g ∧ g < ((w7.alloc (.cells (stCells a (.slice sA a.args.length sc)).toArray 32)).alloc (.cells (stCells a (.slice sA a.args.length sc)).toArray 32)).heap.size ∧ (Value.slice vA acc.length vc).ownBlock ≠ some g) (.slice sA a.args.length sc) a from
              ArAt.keep SA.out (fun p hp => (((Below.refl w7.heap.size w7).alloc (Nat.le_refl _) _).alloc (by simp) _).cell hp.2) (fun g hg => ⟨Nat.le_trans hsz hg.1, by simp; omega, fun hh => by have := own_block_lt OW.out.2.1 g hh; omega⟩))
            have hb8 : wc.heap.size ≤ ((w7.alloc (.cells (stCells a (.slice sA a.args.length sc)).toArray 32)).alloc (.cells (stCells a (.slice sA a.args.length sc)).toArray 32)).heap.size := Nat.le_trans hsz BE8.out.size
            clear HST SA hvc hvm
            go_wp2_with (at_builtin; refine wpList_append_to _ rfl (.tmp 62) (.tmp 64) 23 rfl wc.heap.size 32 _ 4 64 Tryz.underlying23 info_st rfl (by omega) HO8.out rfl HN8.out rfl rfl (stCells_one a _ rfl) (by omega) (by omega) hb8 ?_; intro v9 w9 hown9 hbel9 hg9 hv9; have ON := Lib.hid (OwnV.snoc stSub_keep OW.out BE8.out HS8.out hown9 hg9 hv9); have BL9 := Lib.hid ((BL.out.trans (BE8.out.mono hsz)).trans hbel9); clear hown9 hbel9 hg9 hv9 HO8 HN8 HS8 BE8 hb8 x0 x1 z0 z1)
            go_roundw
            case rel => exact ⟨k + 1, by omega, by go_num, acc ++ [a], _, by simp [HAL.out], HST2.out, BL9.out, ON.out⟩
            case measure => simp [intOf]; omega
          · have e1 : ((ka : Int) != 0) = true := by rw [bne_iff_ne]; omega
            obtain rfl : out = ([], k + 1, ka) := HST.out.symm.trans (if_pos hka)
            clear HST hka
            go_wp2_with fail
            exact bodyPost_ret (v := .tuple #[.slice none 0 0, .agg #[.int .i64 ((k + 1 : Nat) : Int), .int .i64 ka]]) (by simp [results, Tryz.results8, go_sem, hB7, x0, x1]) rfl ⟨_, rfl, StAt.nil _ _, ((B7.out.setCell (Nat.le_refl _) _).setCell (Nat.le_refl _) _).alloc (by simpa using B7.out.size) _⟩
        · obtain rfl : k = ls.length := by omega
          have hR := HARG.out
          rw [List.drop_length] at hR
          obtain rfl : out = (acc, 0, 0) := hR.symm
          have HAA := Lib.hid (OwnV.stAt OW.out)
          clear hR HARG
          go_wp2_with fail
          go_region
          all_goals (
            go_wp2_with fail
            exact bodyPost_ret (v := .tuple #[.slice vA acc.length vc, .agg #[.int .i64 0, .int .i64 0]]) (by simp [results, Tryz.results8, go_sem, x0, x1]) rfl ⟨_, rfl, HAA.out.keep (fun p hp => (World.cell?_of_block (Below.heap_setCell _ _ _ p.block (by simp; omega))).trans (World.cell?_of_block (Below.heap_setCell _ _ _ p.block (by simp; omega)))) (fun g hg => ⟨by omega, by simpa using hg.2⟩), ((BW.out.setCell (Nat.le_refl _) _).setCell (Nat.le_refl _) _).drew⟩)
end Go.Proofs.YtpcpjghfcimblaaGreatDoor
