/- Ln12. -/
import Derived.Test.YtagplldaooipmaaGreatDoorKp
namespace Go.Proofs.YtagplldaooipmaaGreatDoor
open Go.RowKit
set_option maxHeartbeats 4000000 in
set_option maxRecDepth 100000 in
theorem Right12_c1f (d : Int) (lab : List UInt8) (colon : Bool) (op : List UInt8) (args : List Ar) (v : Value) (w : World) (hg : GWL w) (hf : fitS ⟨lab, colon, op, args⟩) (hs : ArAt w (· < w.heap.size) v args) (hk : knownB d = true) (hl : lab ≠ []) (hp : plainB d lab = true) (ho : op ≠ []) (hgr : greatB op = true) (hse : setsB op = false) (hcl : colon = false) :
    Calls Tryz.prog 12 #[.int .i64 d, .agg #[.string ⟨lab.toArray⟩, .bool colon, .string ⟨op.toArray⟩, v]] w fun e w' => e = .returned (.int .i64 2) ∧ Below w.heap.size w w' := by
  have HKn := Lib.hid (fun W => known_any d W)
  have HPl := Lib.hid (fun W (hW : GWL W) => Plain_any d lab W (by have := hf.1; simp only at this; omega) hW)
  have HGr := Lib.hid (fun W => great_any op W (by have := hf.2.1; simp only at this; omega))
  have HSe := Lib.hid (fun W => sets_any op W)
  have HCo := Lib.hid (fun bd bs W (hW : Below w.heap.size w W) h1 h2 => acont_any d op args v bd bs W (hg.below hW) hf.2.2 (hs.at hW hW.size) h1 h2)
  obtain ⟨A, c, rfl, hc, hm⟩ := hs.form
  unfold maxLen at hm
  clear hs hf
  rw [hk] at HKn
  have l1 : (lab == []) = false := by simpa using hl
  have l2 : lab.isEmpty = false := by simpa using hl
  rw [hp] at HPl
  have o1 : (op == []) = false := by simpa using ho
  have o2 : op.isEmpty = false := by simpa using ho
  rw [hgr] at HGr
  rw [hse] at HSe
  subst hcl
  clear hk hl hp ho hgr hse
  go_enter Tryz.func12, Tryz.ntmps12
  go_wp2_with fail
  refine (HKn.out _).mono ?_
  rintro e w0 ⟨rfl, rfl⟩
  go_wp2_with fail
  refine (HPl.out _ (hg.below (((Below.refl _ _).alloc (Nat.le_refl _) _).alloc (by simp) _))).mono ?_
  rintro e w1 ⟨rfl, hb1⟩
  obtain ⟨C0, C1, BB⟩ := boxes hb1
  have HC1 := Lib.hid C0
  have HD1 := Lib.hid C1
  have HB1 := Lib.hid BB
  clear C0 C1 BB hb1
  have d0 := cell_of_heap (i := 0) HC1.out
  simp at d0
  obtain ⟨s0, s1, s2, s3⟩ := cells4 HD1.out
  go_wp2_with fail
  refine (HGr.out _).mono ?_
  rintro e w2 ⟨rfl, hb2⟩
  have C0 := (hb2.block _ (lt_of_heap HC1.out)).trans HC1.out
  have C1 := (hb2.block _ (lt_of_heap HD1.out)).trans HD1.out
  have BB := bthen HB1.out hb2
  have HC2 := Lib.hid C0
  have HD2 := Lib.hid C1
  have HB2 := Lib.hid BB
  clear C0 C1 BB hb2 d0 s0 s1 s2 s3
  have d0 := cell_of_heap (i := 0) HC2.out
  simp at d0
  obtain ⟨s0, s1, s2, s3⟩ := cells4 HD2.out
  go_wp2_with fail
  refine (HSe.out _).mono ?_
  rintro e w3 ⟨rfl, hb3⟩
  have C0 := (hb3.block _ (lt_of_heap HC2.out)).trans HC2.out
  have C1 := (hb3.block _ (lt_of_heap HD2.out)).trans HD2.out
  have BB := bthen HB2.out hb3
  have HC3 := Lib.hid C0
  have HD3 := Lib.hid C1
  have HB3 := Lib.hid BB
  clear C0 C1 BB hb3 d0 s0 s1 s2 s3
  have d0 := cell_of_heap (i := 0) HC3.out
  simp at d0
  obtain ⟨s0, s1, s2, s3⟩ := cells4 HD3.out
  go_wp2_with fail
  have hz4 : w.heap.size + 1 < w3.heap.size := lt_of_heap HD3.out
  first | (go_region_with (first | (go_at_call 31; (with_reducible refine (HSe.out _).mono ?_); rintro e1 w4 ⟨rfl, hb4⟩; have t1 := (hb4.cell (p := ⟨w.heap.size + 1, 1, none⟩) hz4).trans s1))) | fail
  all_goals (
    have C0 := (hb4.block _ (lt_of_heap HC3.out)).trans HC3.out
    have C1 := (hb4.block _ (lt_of_heap HD3.out)).trans HD3.out
    have BB := HB3.out.drew.trans (hb4.mono (by simpa using HB3.out.size))
    have HC4 := Lib.hid C0
    have HD4 := Lib.hid C1
    have HB4 := Lib.hid BB
    clear C0 C1 BB hb4 t1 d0 s0 s1 s2 s3
    have d0 := cell_of_heap (i := 0) HC4.out
    simp at d0
    obtain ⟨s0, s1, s2, s3⟩ := cells4 HD4.out
    go_wp2_with fail
    go_ret
    exact ⟨rfl, HB4.out⟩)
set_option maxHeartbeats 4000000 in
set_option maxRecDepth 100000 in
theorem Right12_c2f (d : Int) (lab : List UInt8) (colon : Bool) (op : List UInt8) (args : List Ar) (v : Value) (w : World) (hg : GWL w) (hf : fitS ⟨lab, colon, op, args⟩) (hs : ArAt w (· < w.heap.size) v args) (hk : knownB d = true) (hl : lab ≠ []) (hp : plainB d lab = true) (ho : op ≠ []) (hgr : greatB op = true) (hse : setsB op = false) (hcl : colon = true) (hn : 32 < args.length) :
    Calls Tryz.prog 12 #[.int .i64 d, .agg #[.string ⟨lab.toArray⟩, .bool colon, .string ⟨op.toArray⟩, v]] w fun e w' => e = .returned (.int .i64 2) ∧ Below w.heap.size w w' := by
  have HKn := Lib.hid (fun W => known_any d W)
  have HPl := Lib.hid (fun W (hW : GWL W) => Plain_any d lab W (by have := hf.1; simp only at this; omega) hW)
  have HGr := Lib.hid (fun W => great_any op W (by have := hf.2.1; simp only at this; omega))
  have HSe := Lib.hid (fun W => sets_any op W)
  have HCo := Lib.hid (fun bd bs W (hW : Below w.heap.size w W) h1 h2 => acont_any d op args v bd bs W (hg.below hW) hf.2.2 (hs.at hW hW.size) h1 h2)
  obtain ⟨A, c, rfl, hc, hm⟩ := hs.form
  unfold maxLen at hm
  clear hs hf
  rw [hk] at HKn
  have l1 : (lab == []) = false := by simpa using hl
  have l2 : lab.isEmpty = false := by simpa using hl
  rw [hp] at HPl
  have o1 : (op == []) = false := by simpa using ho
  have o2 : op.isEmpty = false := by simpa using ho
  rw [hgr] at HGr
  rw [hse] at HSe
  subst hcl
  clear hk hl hp ho hgr hse
  go_enter Tryz.func12, Tryz.ntmps12
  go_wp2_with fail
  refine (HKn.out _).mono ?_
  rintro e w0 ⟨rfl, rfl⟩
  go_wp2_with fail
  refine (HPl.out _ (hg.below (((Below.refl _ _).alloc (Nat.le_refl _) _).alloc (by simp) _))).mono ?_
  rintro e w1 ⟨rfl, hb1⟩
  obtain ⟨C0, C1, BB⟩ := boxes hb1
  have HC1 := Lib.hid C0
  have HD1 := Lib.hid C1
  have HB1 := Lib.hid BB
  clear C0 C1 BB hb1
  have d0 := cell_of_heap (i := 0) HC1.out
  simp at d0
  obtain ⟨s0, s1, s2, s3⟩ := cells4 HD1.out
  go_wp2_with fail
  refine (HGr.out _).mono ?_
  rintro e w2 ⟨rfl, hb2⟩
  have C0 := (hb2.block _ (lt_of_heap HC1.out)).trans HC1.out
  have C1 := (hb2.block _ (lt_of_heap HD1.out)).trans HD1.out
  have BB := bthen HB1.out hb2
  have HC2 := Lib.hid C0
  have HD2 := Lib.hid C1
  have HB2 := Lib.hid BB
  clear C0 C1 BB hb2 d0 s0 s1 s2 s3
  have d0 := cell_of_heap (i := 0) HC2.out
  simp at d0
  obtain ⟨s0, s1, s2, s3⟩ := cells4 HD2.out
  go_wp2_with fail
  refine (HSe.out _).mono ?_
  rintro e w3 ⟨rfl, hb3⟩
  have C0 := (hb3.block _ (lt_of_heap HC2.out)).trans HC2.out
  have C1 := (hb3.block _ (lt_of_heap HD2.out)).trans HD2.out
  have BB := bthen HB2.out hb3
  have HC3 := Lib.hid C0
  have HD3 := Lib.hid C1
  have HB3 := Lib.hid BB
  clear C0 C1 BB hb3 d0 s0 s1 s2 s3
  have d0 := cell_of_heap (i := 0) HC3.out
  simp at d0
  obtain ⟨s0, s1, s2, s3⟩ := cells4 HD3.out
  go_wp2_with fail
  have hz4 : w.heap.size + 1 < w3.heap.size := lt_of_heap HD3.out
  first | (go_region_with (first | (go_at_call 31; (with_reducible refine (HSe.out _).mono ?_); rintro e1 w4 ⟨rfl, hb4⟩; have t1 := (hb4.cell (p := ⟨w.heap.size + 1, 1, none⟩) hz4).trans s1))) | fail
  all_goals (
    have C0 := (hb4.block _ (lt_of_heap HC3.out)).trans HC3.out
    have C1 := (hb4.block _ (lt_of_heap HD3.out)).trans HD3.out
    have BB := HB3.out.drew.trans (hb4.mono (by simpa using HB3.out.size))
    have HC4 := Lib.hid C0
    have HD4 := Lib.hid C1
    have HB4 := Lib.hid BB
    clear C0 C1 BB hb4 t1 d0 s0 s1 s2 s3
    have d0 := cell_of_heap (i := 0) HC4.out
    simp at d0
    obtain ⟨s0, s1, s2, s3⟩ := cells4 HD4.out
    go_wp2_with fail
    go_ret
    exact ⟨rfl, HB4.out⟩)
set_option maxHeartbeats 4000000 in
set_option maxRecDepth 100000 in
theorem Right12_c3ft (d : Int) (lab : List UInt8) (colon : Bool) (op : List UInt8) (args : List Ar) (v : Value) (w : World) (hg : GWL w) (hf : fitS ⟨lab, colon, op, args⟩) (hs : ArAt w (· < w.heap.size) v args) (hk : knownB d = true) (hl : lab ≠ []) (hp : plainB d lab = true) (ho : op ≠ []) (hgr : greatB op = true) (hse : setsB op = false) (hcl : colon = true) (hn : args.length ≤ 32) (hal : args.all (rightA d op) = true) :
    Calls Tryz.prog 12 #[.int .i64 d, .agg #[.string ⟨lab.toArray⟩, .bool colon, .string ⟨op.toArray⟩, v]] w fun e w' => e = .returned (.int .i64 0) ∧ Below w.heap.size w w' := by
  have HKn := Lib.hid (fun W => known_any d W)
  have HPl := Lib.hid (fun W (hW : GWL W) => Plain_any d lab W (by have := hf.1; simp only at this; omega) hW)
  have HGr := Lib.hid (fun W => great_any op W (by have := hf.2.1; simp only at this; omega))
  have HSe := Lib.hid (fun W => sets_any op W)
  have HCo := Lib.hid (fun bd bs W (hW : Below w.heap.size w W) h1 h2 => acont_any d op args v bd bs W (hg.below hW) hf.2.2 (hs.at hW hW.size) h1 h2)
  obtain ⟨A, c, rfl, hc, hm⟩ := hs.form
  unfold maxLen at hm
  clear hs hf
  rw [hk] at HKn
  have l1 : (lab == []) = false := by simpa using hl
  have l2 : lab.isEmpty = false := by simpa using hl
  rw [hp] at HPl
  have o1 : (op == []) = false := by simpa using ho
  have o2 : op.isEmpty = false := by simpa using ho
  rw [hgr] at HGr
  rw [hse] at HSe
  rw [hal] at HCo
  simp only [Bool.not_true] at HCo
  subst hcl
  clear hk hl hp ho hgr hse hal
  go_enter Tryz.func12, Tryz.ntmps12
  go_wp2_with fail
  refine (HKn.out _).mono ?_
  rintro e w0 ⟨rfl, rfl⟩
  go_wp2_with fail
  refine (HPl.out _ (hg.below (((Below.refl _ _).alloc (Nat.le_refl _) _).alloc (by simp) _))).mono ?_
  rintro e w1 ⟨rfl, hb1⟩
  obtain ⟨C0, C1, BB⟩ := boxes hb1
  have HC1 := Lib.hid C0
  have HD1 := Lib.hid C1
  have HB1 := Lib.hid BB
  clear C0 C1 BB hb1
  have d0 := cell_of_heap (i := 0) HC1.out
  simp at d0
  obtain ⟨s0, s1, s2, s3⟩ := cells4 HD1.out
  go_wp2_with fail
  refine (HGr.out _).mono ?_
  rintro e w2 ⟨rfl, hb2⟩
  have C0 := (hb2.block _ (lt_of_heap HC1.out)).trans HC1.out
  have C1 := (hb2.block _ (lt_of_heap HD1.out)).trans HD1.out
  have BB := bthen HB1.out hb2
  have HC2 := Lib.hid C0
  have HD2 := Lib.hid C1
  have HB2 := Lib.hid BB
  clear C0 C1 BB hb2 d0 s0 s1 s2 s3
  have d0 := cell_of_heap (i := 0) HC2.out
  simp at d0
  obtain ⟨s0, s1, s2, s3⟩ := cells4 HD2.out
  go_wp2_with fail
  refine (HSe.out _).mono ?_
  rintro e w3 ⟨rfl, hb3⟩
  have C0 := (hb3.block _ (lt_of_heap HC2.out)).trans HC2.out
  have C1 := (hb3.block _ (lt_of_heap HD2.out)).trans HD2.out
  have BB := bthen HB2.out hb3
  have HC3 := Lib.hid C0
  have HD3 := Lib.hid C1
  have HB3 := Lib.hid BB
  clear C0 C1 BB hb3 d0 s0 s1 s2 s3
  have d0 := cell_of_heap (i := 0) HC3.out
  simp at d0
  obtain ⟨s0, s1, s2, s3⟩ := cells4 HD3.out
  go_wp2_with fail
  have hz4 : w.heap.size + 1 < w3.heap.size := lt_of_heap HD3.out
  first | (go_region_with (first | (go_at_call 31; (with_reducible refine (HSe.out _).mono ?_); rintro e1 w4 ⟨rfl, hb4⟩; have t1 := (hb4.cell (p := ⟨w.heap.size + 1, 1, none⟩) hz4).trans s1))) | fail
  all_goals (
    have C0 := (hb4.block _ (lt_of_heap HC3.out)).trans HC3.out
    have C1 := (hb4.block _ (lt_of_heap HD3.out)).trans HD3.out
    have BB := HB3.out.drew.trans (hb4.mono (by simpa using HB3.out.size))
    have HC4 := Lib.hid C0
    have HD4 := Lib.hid C1
    have HB4 := Lib.hid BB
    clear C0 C1 BB hb4 t1 d0 s0 s1 s2 s3
    have d0 := cell_of_heap (i := 0) HC4.out
    simp at d0
    obtain ⟨s0, s1, s2, s3⟩ := cells4 HD4.out
    go_wp2_with fail
    refine (HCo.out _ _ _ HB4.out d0 s2).mono ?_
    rintro e w9 ⟨rfl, hb9⟩
    go_wp2_with fail
    go_ret
    exact ⟨rfl, bthen HB4.out hb9⟩)
set_option maxHeartbeats 4000000 in
set_option maxRecDepth 100000 in
theorem Right12_c3ff (d : Int) (lab : List UInt8) (colon : Bool) (op : List UInt8) (args : List Ar) (v : Value) (w : World) (hg : GWL w) (hf : fitS ⟨lab, colon, op, args⟩) (hs : ArAt w (· < w.heap.size) v args) (hk : knownB d = true) (hl : lab ≠ []) (hp : plainB d lab = true) (ho : op ≠ []) (hgr : greatB op = true) (hse : setsB op = false) (hcl : colon = true) (hn : args.length ≤ 32) (hal : args.all (rightA d op) = false) :
    Calls Tryz.prog 12 #[.int .i64 d, .agg #[.string ⟨lab.toArray⟩, .bool colon, .string ⟨op.toArray⟩, v]] w fun e w' => e = .returned (.int .i64 2) ∧ Below w.heap.size w w' := by
  have HKn := Lib.hid (fun W => known_any d W)
  have HPl := Lib.hid (fun W (hW : GWL W) => Plain_any d lab W (by have := hf.1; simp only at this; omega) hW)
  have HGr := Lib.hid (fun W => great_any op W (by have := hf.2.1; simp only at this; omega))
  have HSe := Lib.hid (fun W => sets_any op W)
  have HCo := Lib.hid (fun bd bs W (hW : Below w.heap.size w W) h1 h2 => acont_any d op args v bd bs W (hg.below hW) hf.2.2 (hs.at hW hW.size) h1 h2)
  obtain ⟨A, c, rfl, hc, hm⟩ := hs.form
  unfold maxLen at hm
  clear hs hf
  rw [hk] at HKn
  have l1 : (lab == []) = false := by simpa using hl
  have l2 : lab.isEmpty = false := by simpa using hl
  rw [hp] at HPl
  have o1 : (op == []) = false := by simpa using ho
  have o2 : op.isEmpty = false := by simpa using ho
  rw [hgr] at HGr
  rw [hse] at HSe
  rw [hal] at HCo
  simp only [Bool.not_false] at HCo
  subst hcl
  clear hk hl hp ho hgr hse hal
  go_enter Tryz.func12, Tryz.ntmps12
  go_wp2_with fail
  refine (HKn.out _).mono ?_
  rintro e w0 ⟨rfl, rfl⟩
  go_wp2_with fail
  refine (HPl.out _ (hg.below (((Below.refl _ _).alloc (Nat.le_refl _) _).alloc (by simp) _))).mono ?_
  rintro e w1 ⟨rfl, hb1⟩
  obtain ⟨C0, C1, BB⟩ := boxes hb1
  have HC1 := Lib.hid C0
  have HD1 := Lib.hid C1
  have HB1 := Lib.hid BB
  clear C0 C1 BB hb1
  have d0 := cell_of_heap (i := 0) HC1.out
  simp at d0
  obtain ⟨s0, s1, s2, s3⟩ := cells4 HD1.out
  go_wp2_with fail
  refine (HGr.out _).mono ?_
  rintro e w2 ⟨rfl, hb2⟩
  have C0 := (hb2.block _ (lt_of_heap HC1.out)).trans HC1.out
  have C1 := (hb2.block _ (lt_of_heap HD1.out)).trans HD1.out
  have BB := bthen HB1.out hb2
  have HC2 := Lib.hid C0
  have HD2 := Lib.hid C1
  have HB2 := Lib.hid BB
  clear C0 C1 BB hb2 d0 s0 s1 s2 s3
  have d0 := cell_of_heap (i := 0) HC2.out
  simp at d0
  obtain ⟨s0, s1, s2, s3⟩ := cells4 HD2.out
  go_wp2_with fail
  refine (HSe.out _).mono ?_
  rintro e w3 ⟨rfl, hb3⟩
  have C0 := (hb3.block _ (lt_of_heap HC2.out)).trans HC2.out
  have C1 := (hb3.block _ (lt_of_heap HD2.out)).trans HD2.out
  have BB := bthen HB2.out hb3
  have HC3 := Lib.hid C0
  have HD3 := Lib.hid C1
  have HB3 := Lib.hid BB
  clear C0 C1 BB hb3 d0 s0 s1 s2 s3
  have d0 := cell_of_heap (i := 0) HC3.out
  simp at d0
  obtain ⟨s0, s1, s2, s3⟩ := cells4 HD3.out
  go_wp2_with fail
  have hz4 : w.heap.size + 1 < w3.heap.size := lt_of_heap HD3.out
  first | (go_region_with (first | (go_at_call 31; (with_reducible refine (HSe.out _).mono ?_); rintro e1 w4 ⟨rfl, hb4⟩; have t1 := (hb4.cell (p := ⟨w.heap.size + 1, 1, none⟩) hz4).trans s1))) | fail
  all_goals (
    have C0 := (hb4.block _ (lt_of_heap HC3.out)).trans HC3.out
    have C1 := (hb4.block _ (lt_of_heap HD3.out)).trans HD3.out
    have BB := HB3.out.drew.trans (hb4.mono (by simpa using HB3.out.size))
    have HC4 := Lib.hid C0
    have HD4 := Lib.hid C1
    have HB4 := Lib.hid BB
    clear C0 C1 BB hb4 t1 d0 s0 s1 s2 s3
    have d0 := cell_of_heap (i := 0) HC4.out
    simp at d0
    obtain ⟨s0, s1, s2, s3⟩ := cells4 HD4.out
    go_wp2_with fail
    refine (HCo.out _ _ _ HB4.out d0 s2).mono ?_
    rintro e w9 ⟨rfl, hb9⟩
    go_wp2_with fail
    go_ret
    exact ⟨rfl, bthen HB4.out hb9⟩)
end Go.Proofs.YtagplldaooipmaaGreatDoor
