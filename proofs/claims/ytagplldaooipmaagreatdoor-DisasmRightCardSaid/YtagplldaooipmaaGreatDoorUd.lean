/- Ud. -/
import Derived.Test.YtagplldaooipmaaGreatDoorUc
import Derived.Test.YtagplldaooipmaaGreatDoorKm
namespace Go.Proofs.YtagplldaooipmaaGreatDoor
open Go.RowKit
theorem short80 : ∀ k : Fin 256, (name80 k.val).length ≤ 4 ∧ ∀ x ∈ args80 k.val, x.length ≤ 3 := by decide +kernel
theorem two80 : ∀ k : Fin 256, (name80 k.val = [77, 79, 86] ∨ name80 k.val = [77, 86, 73] → (args80 k.val).length = 2) ∧ (name80 k.val ∈ [[76, 88, 73], [83, 84, 65, 88], [76, 68, 65, 88], [73, 78, 88], [68, 67, 88], [68, 65, 68], [73, 78, 82], [68, 67, 82], [80, 79, 80], [80, 85, 83, 72]] → 0 < (args80 k.val).length) ∧ ((k.val / 64 = 2 ∨ (k.val / 64 = 3 ∧ k.val % 8 = 6)) → 0 < (args80 k.val).length) := by decide +kernel
theorem zarg_len (s : List UInt8) (h : s.length ≤ 3) : (zarg s).length ≤ 1000 := by
  unfold zarg; repeat' (split; simp)
  omega
theorem zpair_len3 (s : List UInt8) (h : s.length ≤ 3) : (zpair s).length ≤ 1000 := zpair_len s (by omega)
theorem rd_str {w : World} {B c g o : Nat} {a : List (List UInt8)} (h : Rd w B (.slice (some ⟨g, o, none⟩) a.length c) a.length (a.map strV)) (k : Nat) (hk : k < a.length) : w.cell? ⟨g, o + k, none⟩ = some (.string ⟨(pickL a k).toArray⟩) := by
  obtain ⟨A', c', h1, h2, h3⟩ := h
  injection h1 with h1 _ _
  subst h1
  obtain ⟨g', o', h4, h5, h6⟩ := h3 (by omega)
  simp only [Option.some.injEq, Addr.mk.injEq, and_true] at h4
  obtain ⟨rfl, rfl⟩ := h4
  exact h6 k _ (by simp [hk, strV, pickL])
theorem rd_some {w : World} {B c : Nat} {A : Option Addr} {a : List (List UInt8)} (h : Rd w B (.slice A a.length c) a.length (a.map strV)) (h0 : 0 < a.length) : ∃ g o, A = some ⟨g, o, none⟩ ∧ g < B := by
  obtain ⟨A', c', h1, h2, h3⟩ := h
  injection h1 with h1 _ _
  subst h1
  obtain ⟨g', o', h4, h5, h6⟩ := h3 (by omega)
  exact ⟨g', o', h4, h5⟩
theorem pick_len (op : Nat) (h : op < 256) (k : Nat) : (pickL (args80 op) k).length ≤ 3 := by
  unfold pickL
  by_cases hk : k < (args80 op).length
  · rw [List.getD_eq_getElem?_getD, List.getElem?_eq_getElem hk]; exact (short80 ⟨op, h⟩).2 _ (List.getElem_mem hk)
  · rw [List.getD_eq_getElem?_getD, List.getElem?_eq_none (by omega)]; simp
theorem zloads_any (op : Nat) (h : op < 256) (v : Value) (w : World) (hr : Rd w w.heap.size v (args80 op).length ((args80 op).map strV)) :
    Calls Tryz.prog 161 #[.string ⟨(name80 op).toArray⟩, v] w (WsN w.heap.size ((zloads (name80 op) (args80 op)).getD []) w) := by
  obtain ⟨t1, t2, _⟩ := two80 ⟨op, h⟩
  have p0 := pick_len op h 0
  simp only at t1 t2
  obtain ⟨A, c, rfl, hc⟩ := hr.form
  generalize args80 op = a at *
  generalize name80 op = name at *
  by_cases hm : name = [77, 79, 86] ∨ name = [77, 86, 73]
  · have ha := t1 hm
    obtain ⟨g, o, rfl, hg⟩ := rd_some hr (by omega)
    have c0 := rd_str hr 0 (by omega)
    have c1 := rd_str hr 1 (by omega)
    rw [Nat.add_zero] at c0
    rw [ha] at hc ⊢
    rcases hm with rfl | rfl
    · exact zload_MOV _ _ g o c w c0 c1 hc
    · exact zload_MVI _ _ g o c w c0 c1 hc
  by_cases ho : name ∈ [[76, 88, 73], [83, 84, 65, 88], [76, 68, 65, 88], [73, 78, 88], [68, 67, 88], [68, 65, 68], [73, 78, 82], [68, 67, 82], [80, 79, 80], [80, 85, 83, 72]]
  · have ha := t2 ho
    obtain ⟨g, o, rfl, hg⟩ := rd_some hr ha
    have c0 := rd_str hr 0 ha
    rw [Nat.add_zero] at c0
    simp only [List.mem_cons, List.not_mem_nil, or_false] at ho
    rcases ho with rfl | rfl | rfl | rfl | rfl | rfl | rfl | rfl | rfl | rfl
    · exact zload_LXI _ g o _ c w c0 ha (zpair_len3 _ p0)
    · exact zload_STAX _ g o _ c w c0 ha (zpair_len3 _ p0)
    · exact zload_LDAX _ g o _ c w c0 ha (zpair_len3 _ p0)
    · exact zload_INX _ g o _ c w c0 ha (zpair_len3 _ p0)
    · exact zload_DCX _ g o _ c w c0 ha (zpair_len3 _ p0)
    · exact zload_DAD _ g o _ c w c0 ha (zpair_len3 _ p0)
    · exact zload_INR _ g o _ c w c0 ha (zarg_len _ p0)
    · exact zload_DCR _ g o _ c w c0 ha (zarg_len _ p0)
    · exact zload_POP _ g o _ c w c0 ha (zpair_len3 _ p0)
    · exact zload_PUSH _ g o _ c w c0 ha (zpair_len3 _ p0)
  · simp only [List.mem_cons, List.not_mem_nil, or_false, not_or] at ho hm
    obtain ⟨h0, h1⟩ := hm
    obtain ⟨h2, h3, h4, h5, h6, h7, h8, h9, h10, h11⟩ := ho
    have hz : zloads name a = none := by unfold zloads; simp [h0, h1, h2, h3, h4, h5, h6, h7, h8, h9, h10, h11]
    rw [hz]
    exact zload_none name _ w (str_ne h0) (str_ne h1) (str_ne h2) (str_ne h3) (str_ne h4) (str_ne h5) (str_ne h6) (str_ne h7) (str_ne h8) (str_ne h9) (str_ne h10) (str_ne h11)
def condP : List UInt8 := [78, 90, 32, 90, 32, 78, 67, 32, 67, 32, 80, 79, 32, 80, 69, 32, 80, 32, 77]
theorem condP_ok : Lib.fields condP = condW80 ∧ ∀ c ∈ condP, c.toNat < 128 := by decide +kernel
theorem condF_any (w : World) (hg : GWL w) : Calls Tryz.prog 136 #[.string ⟨condP.toArray⟩] w fun e w' => ∃ g, e = .returned (.slice (some ⟨g, 0, none⟩) 8 8) ∧ Below w.heap.size w w' ∧ ∀ j, j < 8 → w'.cell? ⟨g, j, none⟩ = some (.string ⟨(pickL condW80 j).toArray⟩) := by
  refine (Tryz.strings_Fields ⟨condP.toArray⟩ w (by simp [ByteArray.size, condP]) (fun j b hb => condP_ok.2 b (List.mem_of_getElem? hb)) hg.1).mono ?_
  rintro e w1 ⟨rfl, rfl⟩
  simp only [condP_ok.1]
  refine ⟨_, rfl, (Below.refl _ _).alloc (Nat.le_refl _) _, fun j hj => ?_⟩
  rw [cell_of_heap (heap_alloc_new w _)]
  match j, hj with
  | 0, _ => rfl
  | 1, _ => rfl
  | 2, _ => rfl
  | 3, _ => rfl
  | 4, _ => rfl
  | 5, _ => rfl
  | 6, _ => rfl
  | 7, _ => rfl
theorem cond_head : ∀ k : Fin 256, 0 ≤ condI80 k.val → ∃ r, name80 k.val = (name80 k.val).headD 0 :: r := by
  have h : ∀ k : Fin 256, 0 ≤ condI80 k.val → (name80 k.val).length ≠ 0 := by decide +kernel
  intro k hk
  have := h k hk
  cases hn : name80 k.val with
  | nil => rw [hn] at this; exact absurd rfl this
  | cons x r => exact ⟨r, rfl⟩
theorem conv_new2 (W : World) (x y : Int) (a b : UInt8) (h : x = (a.toNat : Int)) (h' : y = (b.toNat : Int)) :
    (convert 22 9 (.slice (some ⟨W.heap.size, 0, none⟩) 2 2)).run Tryz.prog (W.alloc (.cells #[.int .u8 x, .int .u8 y] 5)) = .ok (.string ⟨#[a, b]⟩) (W.alloc (.cells #[.int .u8 x, .int .u8 y] 5)) := by
  subst h h'
  exact conv_back _ 22 9 5 W.heap.size 0 2 2 [a, b] Tryz.underlying22 Tryz.underlying5 Tryz.underlying9 rfl (fun j hj => by
    match j, hj with
    | 0, _ => rw [Nat.zero_add, cell_of_heap (heap_alloc_new W _)]; rfl
    | 1, _ => rw [Nat.zero_add, cell_of_heap (heap_alloc_new W _)]; rfl)
theorem rst_list (op : Nat) (_h : op < 256) (h1 : op / 64 = 3) (h2 : op % 8 = 7) : op = 199 ∨ op = 207 ∨ op = 215 ∨ op = 223 ∨ op = 231 ∨ op = 239 ∨ op = 247 ∨ op = 255 := by omega
set_option maxHeartbeats 4000000 in
set_option maxRecDepth 100000 in
theorem zform_any (op : Nat) (h : op < 256) (w : World) (hg : GWL w) : Calls Tryz.prog 115 #[.int .u8 op] w (WsN w.heap.size (zform op) w) := by
  have HN := Lib.hid (fun W => name80_any op h W)
  have HA := Lib.hid (fun W => args80_any op h W)
  have HC := Lib.hid (fun W => condI80_any op h W)
  obtain ⟨_, _, ta⟩ := two80 ⟨op, h⟩
  simp only at ta
  unfold zform
  by_cases hnm : name80 op = []
  · rw [if_pos hnm]
    rw [hnm] at HN
    clear hnm ta
    go_enter Tryz.func115, Tryz.ntmps115
    go_wp2_with fail
    refine (HN.out _).mono ?_
    rintro e w1 ⟨rfl, hb1⟩
    go_wp2_with fail
    refine (HA.out _).mono ?_
    rintro e w2 ⟨v, rfl, hr, hb2⟩
    obtain ⟨A, c, rfl, hcc⟩ := hr.form
    have B2 := Lib.hid (bthen hb1 hb2)
    have HR := Lib.hid hr
    clear hr hb1 hb2 HN HA
    go_wp2_with fail
    refine (HC.out _).mono ?_
    rintro e w' ⟨rfl, rfl⟩
    clear HC
    go_wp2_with fail
    go_ret
    exact wsn_nil B2.out rfl
  rw [if_neg hnm]
  have n1 := str_ne hnm
  have n2 : (name80 op).isEmpty = false := by simpa using hnm
  by_cases hco : 0 ≤ condI80 op
  · rw [if_pos hco]
    obtain ⟨r, hr0⟩ := cond_head ⟨op, h⟩ hco
    simp only at hr0
    have hlo := condI80_lo op
    have hm : cond80 (condI80 op).toNat = pickL condW80 (condI80 op).toNat := by unfold cond80; rw [Nat.mod_eq_of_lt (by omega)]
    rw [hm]
    generalize (name80 op).headD 0 = x at *
    rw [hr0] at HN n1 n2
    generalize condI80 op = ci at *
    obtain ⟨j, rfl⟩ := Int.eq_ofNat_of_zero_le hco
    rw [Int.toNat_natCast]
    have hj : j < 8 := by omega
    clear hnm ta hr0 hco hm hlo
    have HF := Lib.hid (fun W hW => condF_any W hW)
    by_cases x1 : x = 82
    · subst x1
      rw [if_pos rfl]
      go_enter Tryz.func115, Tryz.ntmps115
      go_wp2_with fail
      refine (HN.out _).mono ?_
      rintro e w1 ⟨rfl, hb1⟩
      go_wp2_with fail
      refine (HA.out _).mono ?_
      rintro e w2 ⟨v, rfl, hr, hb2⟩
      obtain ⟨A, c, rfl, hcc⟩ := hr.form
      have B2 := Lib.hid (bthen hb1 hb2)
      have HR := Lib.hid hr
      clear hr hb1 hb2 HN HA
      go_wp2_with fail
      refine (HC.out _).mono ?_
      rintro e w' ⟨rfl, rfl⟩
      clear HC
      go_wp2_with fail
      refine (HF.out _ (hg.below B2.out)).mono ?_
      rintro e w3 ⟨g, rfl, hb3, hcc⟩
      have B3 := Lib.hid (bthen B2.out hb3)
      have c1 := hcc j hj
      generalize pickL condW80 j = z at *
      clear hcc hb3 HF
      go_wp2_with ((with_reducible refine (zwords_any _ _ ⟨_, _, _, rfl⟩).mono ?_); rintro e w' ⟨rfl, rfl⟩)
      go_ret
      exact wsn_2 B3.out rfl rfl
    rw [if_neg x1]
    have y1 : ((x.toNat : Int) == 82) = false := ne_byte (n := 82) (by decide) x1
    by_cases x2 : x = 74
    · subst x2
      rw [if_pos rfl]
      go_enter Tryz.func115, Tryz.ntmps115
      go_wp2_with fail
      refine (HN.out _).mono ?_
      rintro e w1 ⟨rfl, hb1⟩
      go_wp2_with fail
      refine (HA.out _).mono ?_
      rintro e w2 ⟨v, rfl, hr, hb2⟩
      obtain ⟨A, c, rfl, hcc⟩ := hr.form
      have B2 := Lib.hid (bthen hb1 hb2)
      have HR := Lib.hid hr
      clear hr hb1 hb2 HN HA
      go_wp2_with fail
      refine (HC.out _).mono ?_
      rintro e w' ⟨rfl, rfl⟩
      clear HC
      go_wp2_with fail
      refine (HF.out _ (hg.below B2.out)).mono ?_
      rintro e w3 ⟨g, rfl, hb3, hcc⟩
      have B3 := Lib.hid (bthen B2.out hb3)
      have c1 := hcc j hj
      generalize pickL condW80 j = z at *
      clear hcc hb3 HF
      go_wp2_with ((with_reducible refine (zwords_any _ _ ⟨_, _, _, rfl⟩).mono ?_); rintro e w' ⟨rfl, rfl⟩)
      go_ret
      exact wsn_3 B3.out rfl rfl
    rw [if_neg x2]
    have y2 : ((x.toNat : Int) == 74) = false := ne_byte (n := 74) (by decide) x2
    clear x1 x2
    go_enter Tryz.func115, Tryz.ntmps115
    go_wp2_with fail
    refine (HN.out _).mono ?_
    rintro e w1 ⟨rfl, hb1⟩
    go_wp2_with fail
    refine (HA.out _).mono ?_
    rintro e w2 ⟨v, rfl, hr, hb2⟩
    obtain ⟨A, c, rfl, hcc⟩ := hr.form
    have B2 := Lib.hid (bthen hb1 hb2)
    have HR := Lib.hid hr
    clear hr hb1 hb2 HN HA
    go_wp2_with fail
    refine (HC.out _).mono ?_
    rintro e w' ⟨rfl, rfl⟩
    clear HC
    go_wp2_with fail
    refine (HF.out _ (hg.below B2.out)).mono ?_
    rintro e w3 ⟨g, rfl, hb3, hcc⟩
    have B3 := Lib.hid (bthen B2.out hb3)
    have c1 := hcc j hj
    generalize pickL condW80 j = z at *
    clear hcc hb3 HF
    go_wp2_with ((with_reducible refine (zwords_any _ _ ⟨_, _, _, rfl⟩).mono ?_); rintro e w' ⟨rfl, rfl⟩)
    go_ret
    exact wsn_3 B3.out rfl rfl
  rw [if_neg hco]
  have m1 := u8_andC7 (x := (op : Int)) (by omega) (by omega)
  have m2 := u8_and38 (x := (op : Int)) (by omega) (by omega)
  have hci := condI80_lo op
  by_cases hrst : op / 64 = 3 ∧ op % 8 = 7
  · rw [if_pos hrst]
    rcases rst_list op h hrst.1 hrst.2 with rfl | rfl | rfl | rfl | rfl | rfl | rfl | rfl
    · have HT := Lib.hid (fun W => Tryz.strings_TrimPrefix ⟨#[48, 48]⟩ ⟨#[48]⟩ W)
      rw [show Lib.trimPrefix (⟨#[48, 48]⟩ : ByteArray).data.toList (⟨#[48]⟩ : ByteArray).data.toList = [48] from rfl] at HT
      have hcv := fun W => conv_new2 W 48 48 48 48 rfl rfl
      show Calls _ _ _ _ (WsN w.heap.size [[82, 83, 84], [48]] w)
      generalize name80 199 = nm at *
      generalize condI80 199 = ci at *
      generalize args80 199 = ar at *
      clear ta hnm hrst m1 m2
      have m3 : bits .and .u8 199 199 = 199 := by decide
      have m4 : bits .and .u8 199 56 = 0 := by decide
      go_enter Tryz.func115, Tryz.ntmps115
      go_wp2_with fail
      refine (HN.out _).mono ?_
      rintro e w1 ⟨rfl, hb1⟩
      go_wp2_with fail
      refine (HA.out _).mono ?_
      rintro e w2 ⟨v, rfl, hr, hb2⟩
      obtain ⟨A, c, rfl, hcc⟩ := hr.form
      have B2 := Lib.hid (bthen hb1 hb2)
      have HR := Lib.hid hr
      clear hr hb1 hb2 HN HA
      go_wp2_with fail
      refine (HC.out _).mono ?_
      rintro e w' ⟨rfl, rfl⟩
      clear HC
      go_wp2_with (first | ((with_reducible refine (HT.out _).mono ?_); rintro e w' ⟨rfl, rfl⟩) | ((with_reducible refine (zwords_any _ _ ⟨_, _, _, rfl⟩).mono ?_); rintro e w' ⟨rfl, rfl⟩))
      go_ret
      exact wsn_2 (B2.out.alloc B2.out.size _) (by simp) rfl
    · have HT := Lib.hid (fun W => Tryz.strings_TrimPrefix ⟨#[48, 56]⟩ ⟨#[48]⟩ W)
      rw [show Lib.trimPrefix (⟨#[48, 56]⟩ : ByteArray).data.toList (⟨#[48]⟩ : ByteArray).data.toList = [56] from rfl] at HT
      have hcv := fun W => conv_new2 W 48 56 48 56 rfl rfl
      show Calls _ _ _ _ (WsN w.heap.size [[82, 83, 84], [56]] w)
      generalize name80 207 = nm at *
      generalize condI80 207 = ci at *
      generalize args80 207 = ar at *
      clear ta hnm hrst m1 m2
      have m3 : bits .and .u8 207 199 = 199 := by decide
      have m4 : bits .and .u8 207 56 = 8 := by decide
      go_enter Tryz.func115, Tryz.ntmps115
      go_wp2_with fail
      refine (HN.out _).mono ?_
      rintro e w1 ⟨rfl, hb1⟩
      go_wp2_with fail
      refine (HA.out _).mono ?_
      rintro e w2 ⟨v, rfl, hr, hb2⟩
      obtain ⟨A, c, rfl, hcc⟩ := hr.form
      have B2 := Lib.hid (bthen hb1 hb2)
      have HR := Lib.hid hr
      clear hr hb1 hb2 HN HA
      go_wp2_with fail
      refine (HC.out _).mono ?_
      rintro e w' ⟨rfl, rfl⟩
      clear HC
      go_wp2_with (first | ((with_reducible refine (HT.out _).mono ?_); rintro e w' ⟨rfl, rfl⟩) | ((with_reducible refine (zwords_any _ _ ⟨_, _, _, rfl⟩).mono ?_); rintro e w' ⟨rfl, rfl⟩))
      go_ret
      exact wsn_2 (B2.out.alloc B2.out.size _) (by simp) rfl
    · have HT := Lib.hid (fun W => Tryz.strings_TrimPrefix ⟨#[49, 54]⟩ ⟨#[48]⟩ W)
      rw [show Lib.trimPrefix (⟨#[49, 54]⟩ : ByteArray).data.toList (⟨#[48]⟩ : ByteArray).data.toList = [49, 54] from rfl] at HT
      have hcv := fun W => conv_new2 W 49 54 49 54 rfl rfl
      show Calls _ _ _ _ (WsN w.heap.size [[82, 83, 84], [49, 54]] w)
      generalize name80 215 = nm at *
      generalize condI80 215 = ci at *
      generalize args80 215 = ar at *
      clear ta hnm hrst m1 m2
      have m3 : bits .and .u8 215 199 = 199 := by decide
      have m4 : bits .and .u8 215 56 = 16 := by decide
      go_enter Tryz.func115, Tryz.ntmps115
      go_wp2_with fail
      refine (HN.out _).mono ?_
      rintro e w1 ⟨rfl, hb1⟩
      go_wp2_with fail
      refine (HA.out _).mono ?_
      rintro e w2 ⟨v, rfl, hr, hb2⟩
      obtain ⟨A, c, rfl, hcc⟩ := hr.form
      have B2 := Lib.hid (bthen hb1 hb2)
      have HR := Lib.hid hr
      clear hr hb1 hb2 HN HA
      go_wp2_with fail
      refine (HC.out _).mono ?_
      rintro e w' ⟨rfl, rfl⟩
      clear HC
      go_wp2_with (first | ((with_reducible refine (HT.out _).mono ?_); rintro e w' ⟨rfl, rfl⟩) | ((with_reducible refine (zwords_any _ _ ⟨_, _, _, rfl⟩).mono ?_); rintro e w' ⟨rfl, rfl⟩))
      go_ret
      exact wsn_2 (B2.out.alloc B2.out.size _) (by simp) rfl
    · have HT := Lib.hid (fun W => Tryz.strings_TrimPrefix ⟨#[50, 52]⟩ ⟨#[48]⟩ W)
      rw [show Lib.trimPrefix (⟨#[50, 52]⟩ : ByteArray).data.toList (⟨#[48]⟩ : ByteArray).data.toList = [50, 52] from rfl] at HT
      have hcv := fun W => conv_new2 W 50 52 50 52 rfl rfl
      show Calls _ _ _ _ (WsN w.heap.size [[82, 83, 84], [50, 52]] w)
      generalize name80 223 = nm at *
      generalize condI80 223 = ci at *
      generalize args80 223 = ar at *
      clear ta hnm hrst m1 m2
      have m3 : bits .and .u8 223 199 = 199 := by decide
      have m4 : bits .and .u8 223 56 = 24 := by decide
      go_enter Tryz.func115, Tryz.ntmps115
      go_wp2_with fail
      refine (HN.out _).mono ?_
      rintro e w1 ⟨rfl, hb1⟩
      go_wp2_with fail
      refine (HA.out _).mono ?_
      rintro e w2 ⟨v, rfl, hr, hb2⟩
      obtain ⟨A, c, rfl, hcc⟩ := hr.form
      have B2 := Lib.hid (bthen hb1 hb2)
      have HR := Lib.hid hr
      clear hr hb1 hb2 HN HA
      go_wp2_with fail
      refine (HC.out _).mono ?_
      rintro e w' ⟨rfl, rfl⟩
      clear HC
      go_wp2_with (first | ((with_reducible refine (HT.out _).mono ?_); rintro e w' ⟨rfl, rfl⟩) | ((with_reducible refine (zwords_any _ _ ⟨_, _, _, rfl⟩).mono ?_); rintro e w' ⟨rfl, rfl⟩))
      go_ret
      exact wsn_2 (B2.out.alloc B2.out.size _) (by simp) rfl
    · have HT := Lib.hid (fun W => Tryz.strings_TrimPrefix ⟨#[51, 50]⟩ ⟨#[48]⟩ W)
      rw [show Lib.trimPrefix (⟨#[51, 50]⟩ : ByteArray).data.toList (⟨#[48]⟩ : ByteArray).data.toList = [51, 50] from rfl] at HT
      have hcv := fun W => conv_new2 W 51 50 51 50 rfl rfl
      show Calls _ _ _ _ (WsN w.heap.size [[82, 83, 84], [51, 50]] w)
      generalize name80 231 = nm at *
      generalize condI80 231 = ci at *
      generalize args80 231 = ar at *
      clear ta hnm hrst m1 m2
      have m3 : bits .and .u8 231 199 = 199 := by decide
      have m4 : bits .and .u8 231 56 = 32 := by decide
      go_enter Tryz.func115, Tryz.ntmps115
      go_wp2_with fail
      refine (HN.out _).mono ?_
      rintro e w1 ⟨rfl, hb1⟩
      go_wp2_with fail
      refine (HA.out _).mono ?_
      rintro e w2 ⟨v, rfl, hr, hb2⟩
      obtain ⟨A, c, rfl, hcc⟩ := hr.form
      have B2 := Lib.hid (bthen hb1 hb2)
      have HR := Lib.hid hr
      clear hr hb1 hb2 HN HA
      go_wp2_with fail
      refine (HC.out _).mono ?_
      rintro e w' ⟨rfl, rfl⟩
      clear HC
      go_wp2_with (first | ((with_reducible refine (HT.out _).mono ?_); rintro e w' ⟨rfl, rfl⟩) | ((with_reducible refine (zwords_any _ _ ⟨_, _, _, rfl⟩).mono ?_); rintro e w' ⟨rfl, rfl⟩))
      go_ret
      exact wsn_2 (B2.out.alloc B2.out.size _) (by simp) rfl
    · have HT := Lib.hid (fun W => Tryz.strings_TrimPrefix ⟨#[52, 48]⟩ ⟨#[48]⟩ W)
      rw [show Lib.trimPrefix (⟨#[52, 48]⟩ : ByteArray).data.toList (⟨#[48]⟩ : ByteArray).data.toList = [52, 48] from rfl] at HT
      have hcv := fun W => conv_new2 W 52 48 52 48 rfl rfl
      show Calls _ _ _ _ (WsN w.heap.size [[82, 83, 84], [52, 48]] w)
      generalize name80 239 = nm at *
      generalize condI80 239 = ci at *
      generalize args80 239 = ar at *
      clear ta hnm hrst m1 m2
      have m3 : bits .and .u8 239 199 = 199 := by decide
      have m4 : bits .and .u8 239 56 = 40 := by decide
      go_enter Tryz.func115, Tryz.ntmps115
      go_wp2_with fail
      refine (HN.out _).mono ?_
      rintro e w1 ⟨rfl, hb1⟩
      go_wp2_with fail
      refine (HA.out _).mono ?_
      rintro e w2 ⟨v, rfl, hr, hb2⟩
      obtain ⟨A, c, rfl, hcc⟩ := hr.form
      have B2 := Lib.hid (bthen hb1 hb2)
      have HR := Lib.hid hr
      clear hr hb1 hb2 HN HA
      go_wp2_with fail
      refine (HC.out _).mono ?_
      rintro e w' ⟨rfl, rfl⟩
      clear HC
      go_wp2_with (first | ((with_reducible refine (HT.out _).mono ?_); rintro e w' ⟨rfl, rfl⟩) | ((with_reducible refine (zwords_any _ _ ⟨_, _, _, rfl⟩).mono ?_); rintro e w' ⟨rfl, rfl⟩))
      go_ret
      exact wsn_2 (B2.out.alloc B2.out.size _) (by simp) rfl
    · have HT := Lib.hid (fun W => Tryz.strings_TrimPrefix ⟨#[52, 56]⟩ ⟨#[48]⟩ W)
      rw [show Lib.trimPrefix (⟨#[52, 56]⟩ : ByteArray).data.toList (⟨#[48]⟩ : ByteArray).data.toList = [52, 56] from rfl] at HT
      have hcv := fun W => conv_new2 W 52 56 52 56 rfl rfl
      show Calls _ _ _ _ (WsN w.heap.size [[82, 83, 84], [52, 56]] w)
      generalize name80 247 = nm at *
      generalize condI80 247 = ci at *
      generalize args80 247 = ar at *
      clear ta hnm hrst m1 m2
      have m3 : bits .and .u8 247 199 = 199 := by decide
      have m4 : bits .and .u8 247 56 = 48 := by decide
      go_enter Tryz.func115, Tryz.ntmps115
      go_wp2_with fail
      refine (HN.out _).mono ?_
      rintro e w1 ⟨rfl, hb1⟩
      go_wp2_with fail
      refine (HA.out _).mono ?_
      rintro e w2 ⟨v, rfl, hr, hb2⟩
      obtain ⟨A, c, rfl, hcc⟩ := hr.form
      have B2 := Lib.hid (bthen hb1 hb2)
      have HR := Lib.hid hr
      clear hr hb1 hb2 HN HA
      go_wp2_with fail
      refine (HC.out _).mono ?_
      rintro e w' ⟨rfl, rfl⟩
      clear HC
      go_wp2_with (first | ((with_reducible refine (HT.out _).mono ?_); rintro e w' ⟨rfl, rfl⟩) | ((with_reducible refine (zwords_any _ _ ⟨_, _, _, rfl⟩).mono ?_); rintro e w' ⟨rfl, rfl⟩))
      go_ret
      exact wsn_2 (B2.out.alloc B2.out.size _) (by simp) rfl
    · have HT := Lib.hid (fun W => Tryz.strings_TrimPrefix ⟨#[53, 54]⟩ ⟨#[48]⟩ W)
      rw [show Lib.trimPrefix (⟨#[53, 54]⟩ : ByteArray).data.toList (⟨#[48]⟩ : ByteArray).data.toList = [53, 54] from rfl] at HT
      have hcv := fun W => conv_new2 W 53 54 53 54 rfl rfl
      show Calls _ _ _ _ (WsN w.heap.size [[82, 83, 84], [53, 54]] w)
      generalize name80 255 = nm at *
      generalize condI80 255 = ci at *
      generalize args80 255 = ar at *
      clear ta hnm hrst m1 m2
      have m3 : bits .and .u8 255 199 = 199 := by decide
      have m4 : bits .and .u8 255 56 = 56 := by decide
      go_enter Tryz.func115, Tryz.ntmps115
      go_wp2_with fail
      refine (HN.out _).mono ?_
      rintro e w1 ⟨rfl, hb1⟩
      go_wp2_with fail
      refine (HA.out _).mono ?_
      rintro e w2 ⟨v, rfl, hr, hb2⟩
      obtain ⟨A, c, rfl, hcc⟩ := hr.form
      have B2 := Lib.hid (bthen hb1 hb2)
      have HR := Lib.hid hr
      clear hr hb1 hb2 HN HA
      go_wp2_with fail
      refine (HC.out _).mono ?_
      rintro e w' ⟨rfl, rfl⟩
      clear HC
      go_wp2_with (first | ((with_reducible refine (HT.out _).mono ?_); rintro e w' ⟨rfl, rfl⟩) | ((with_reducible refine (zwords_any _ _ ⟨_, _, _, rfl⟩).mono ?_); rintro e w' ⟨rfl, rfl⟩))
      go_ret
      exact wsn_2 (B2.out.alloc B2.out.size _) (by simp) rfl
  rw [if_neg hrst]
  have q1 : ((op : Int) / 64 * 64 + (op : Int) % 8 == 199) = false := by rw [beq_eq_false_iff_ne]; omega
  clear hrst
  by_cases hsum : op / 64 = 2 ∨ (op / 64 = 3 ∧ op % 8 = 6)
  · rw [if_pos hsum]
    have ha := ta hsum
    have HS := Lib.hid (fun W => zsums_any (name80 op) (zarg (pickL (args80 op) 0)) W)
    have HZ := Lib.hid (fun W => zarg_any (pickL (args80 op) 0) W)
    generalize zsums (name80 op) (zarg (pickL (args80 op) 0)) = res at *
    generalize zarg (pickL (args80 op) 0) = zx at *
    generalize args80 op = ar at *
    generalize name80 op = nm at *
    generalize condI80 op = ci at *
    clear ta hnm
    by_cases h2 : op / 64 = 2
    · have q2 : ((op : Int) / 64 == 2) = true := by rw [beq_iff_eq]; omega
      clear h2 hsum
      go_enter Tryz.func115, Tryz.ntmps115
      go_wp2_with fail
      refine (HN.out _).mono ?_
      rintro e w1 ⟨rfl, hb1⟩
      go_wp2_with fail
      refine (HA.out _).mono ?_
      rintro e w2 ⟨v, rfl, hr, hb2⟩
      obtain ⟨A, c, rfl, hcc⟩ := hr.form
      have B2 := Lib.hid (bthen hb1 hb2)
      have HR := Lib.hid hr
      clear hr hb1 hb2 HN HA
      go_wp2_with fail
      refine (HC.out _).mono ?_
      rintro e w' ⟨rfl, rfl⟩
      clear HC
      obtain ⟨g, o, rfl, hgg⟩ := rd_some HR.out ha
      have c0 := rd_str HR.out 0 ha
      rw [Nat.add_zero] at c0
      go_wp2_with fail
      refine (HZ.out _).mono ?_
      rintro e w' ⟨rfl, rfl⟩
      go_wp2_with fail
      refine (HS.out _).mono ?_
      rintro e w3 ⟨v, rfl, h1, h2, hb⟩
      go_wp2_with fail
      go_ret
      exact ⟨v, rfl, h1, fun h0 => (h2 h0).imp fun g hg => ⟨hg.1, Nat.le_trans B2.out.size hg.2.1, hg.2.2⟩, bthen B2.out hb⟩
    · have q2 : ((op : Int) / 64 == 2) = false := by rw [beq_eq_false_iff_ne]; omega
      have q3 : ((op : Int) / 64 * 64 + (op : Int) % 8 == 198) = true := by rw [beq_iff_eq]; omega
      clear h2 hsum
      go_enter Tryz.func115, Tryz.ntmps115
      go_wp2_with fail
      refine (HN.out _).mono ?_
      rintro e w1 ⟨rfl, hb1⟩
      go_wp2_with fail
      refine (HA.out _).mono ?_
      rintro e w2 ⟨v, rfl, hr, hb2⟩
      obtain ⟨A, c, rfl, hcc⟩ := hr.form
      have B2 := Lib.hid (bthen hb1 hb2)
      have HR := Lib.hid hr
      clear hr hb1 hb2 HN HA
      go_wp2_with fail
      refine (HC.out _).mono ?_
      rintro e w' ⟨rfl, rfl⟩
      clear HC
      obtain ⟨g, o, rfl, hgg⟩ := rd_some HR.out ha
      have c0 := rd_str HR.out 0 ha
      rw [Nat.add_zero] at c0
      go_wp2_with fail
      refine (HZ.out _).mono ?_
      rintro e w' ⟨rfl, rfl⟩
      go_wp2_with fail
      refine (HS.out _).mono ?_
      rintro e w3 ⟨v, rfl, h1, h2, hb⟩
      go_wp2_with fail
      go_ret
      exact ⟨v, rfl, h1, fun h0 => (h2 h0).imp fun g hg => ⟨hg.1, Nat.le_trans B2.out.size hg.2.1, hg.2.2⟩, bthen B2.out hb⟩
  rw [if_neg hsum]
  have q2 : ((op : Int) / 64 == 2) = false := by rw [beq_eq_false_iff_ne]; omega
  have q3 : ((op : Int) / 64 * 64 + (op : Int) % 8 == 198) = false := by rw [beq_eq_false_iff_ne]; omega
  have HL := Lib.hid (fun v W hr => zloads_any op h v W hr)
  have HP := Lib.hid (fun W => zplain_any (name80 op) W)
  have hne : ∀ l, zloads (name80 op) (args80 op) = some l → l ≠ [] := by
    intro l hl h0
    subst h0
    unfold zloads at hl
    repeat' (split at hl)
    all_goals simp at hl
  generalize zplain (name80 op) = res at *
  cases hz : zloads (name80 op) (args80 op) with
  | none =>
    rw [hz] at HL
    simp only [Option.getD_none] at HL
    simp only []
    generalize args80 op = ar at *
    generalize name80 op = nm at *
    generalize condI80 op = ci at *
    clear ta hnm hsum hz hne
    go_enter Tryz.func115, Tryz.ntmps115
    go_wp2_with fail
    refine (HN.out _).mono ?_
    rintro e w1 ⟨rfl, hb1⟩
    go_wp2_with fail
    refine (HA.out _).mono ?_
    rintro e w2 ⟨v, rfl, hr, hb2⟩
    obtain ⟨A, c, rfl, hcc⟩ := hr.form
    have B2 := Lib.hid (bthen hb1 hb2)
    have HR := Lib.hid hr
    clear hr hb1 hb2 HN HA
    go_wp2_with fail
    refine (HC.out _).mono ?_
    rintro e w' ⟨rfl, rfl⟩
    clear HC
    go_wp2_with fail
    refine (HL.out _ _ HR.out).mono ?_
    rintro e w3 ⟨v, rfl, h1, h2, hb⟩
    obtain rfl := h1 rfl
    have B3 := Lib.hid (bthen B2.out hb)
    clear h1 h2 hb HL
    go_wp2_with fail
    refine (HP.out _).mono ?_
    rintro e w3 ⟨v, rfl, h1, h2, hb⟩
    go_wp2_with fail
    go_ret
    exact ⟨v, rfl, h1, fun h0 => (h2 h0).imp fun g hg => ⟨hg.1, Nat.le_trans B3.out.size hg.2.1, hg.2.2⟩, bthen B3.out hb⟩
  | some l =>
    rw [hz] at HL
    have hl := hne l hz
    simp only [Option.getD_some] at HL
    simp only []
    generalize args80 op = ar at *
    generalize name80 op = nm at *
    generalize condI80 op = ci at *
    clear ta hnm hsum hz hne
    go_enter Tryz.func115, Tryz.ntmps115
    go_wp2_with fail
    refine (HN.out _).mono ?_
    rintro e w1 ⟨rfl, hb1⟩
    go_wp2_with fail
    refine (HA.out _).mono ?_
    rintro e w2 ⟨v, rfl, hr, hb2⟩
    obtain ⟨A, c, rfl, hcc⟩ := hr.form
    have B2 := Lib.hid (bthen hb1 hb2)
    have HR := Lib.hid hr
    clear hr hb1 hb2 HN HA
    go_wp2_with fail
    refine (HC.out _).mono ?_
    rintro e w' ⟨rfl, rfl⟩
    clear HC
    go_wp2_with fail
    refine (HL.out _ _ HR.out).mono ?_
    rintro e w3 ⟨v, rfl, h1, h2, hb⟩
    obtain ⟨g, rfl, hg1, hg2⟩ := h2 hl
    have B3 := Lib.hid (bthen B2.out hb)
    have WA := Lib.hid hg2
    have G1 := Lib.hid (Nat.le_trans B2.out.size hg1)
    have G2 := Lib.hid hl
    clear h1 h2 hb HL hg2 hg1 hl
    go_wp2_with fail
    go_ret
    exact ⟨_, rfl, fun h0 => absurd h0 G2.out, fun _ => ⟨g, rfl, G1.out, WA.out⟩, B3.out⟩
end Go.Proofs.YtagplldaooipmaaGreatDoor
/- zilog: Name, Args. -/
namespace Go.Proofs.YtagplldaooipmaaGreatDoor
open Go.RowKit
theorem zform_len (op : Nat) (h : op < 256) : (zform op).length ≤ 3 := by
  have hf : ∀ k : Fin 256, (zform k.val).length ≤ 3 := by decide +kernel
  exact hf ⟨op, h⟩
set_option maxHeartbeats 2000000 in
theorem zname_any (op : Nat) (h : op < 256) (w : World) (hg : GWL w) : Calls Tryz.prog 70 #[.int .u8 op] w fun e w' => e = .returned (.string ⟨(zname op).toArray⟩) ∧ Below w.heap.size w w' := by
  have HW := Lib.hid ((zform_any op h w hg).mono fun _ _ h => wsn_cases h)
  have hl := zform_len op h
  unfold zname
  generalize zform op = ws at *
  match ws, hl, HW with
  | [], _, HW =>
    go_enter Tryz.func70, Tryz.ntmps70
    go_wp2_with fail
    refine (HW.out).mono ?_
    rintro e w1 ⟨hb, ⟨_, rfl⟩ | ⟨h, _⟩⟩
    · go_wp2_with fail
      go_ret
      exact ⟨rfl, hb⟩
    · exact absurd rfl h
  | x :: r, hl, HW =>
    have l1 : r.length ≤ 2 := by simpa using hl
    simp only [List.headD_cons]
    clear hl
    go_enter Tryz.func70, Tryz.ntmps70
    go_wp2_with fail
    refine (HW.out).mono ?_
    rintro e w1 ⟨hb, ⟨h, _⟩ | ⟨_, g, rfl, hg, hg', hc⟩⟩
    · exact absurd h (by simp)
    have c1 := hc 0 (by simp)
    simp only [List.getElem_cons_zero] at c1
    simp only [List.length_cons]
    clear hc HW
    generalize r.length = m at *
    go_wp2_with fail
    go_ret
    exact ⟨rfl, hb⟩
set_option maxHeartbeats 2000000 in
theorem zargs_any (op : Nat) (h : op < 256) (w : World) (hg : GWL w) : Calls Tryz.prog 71 #[.int .u8 op] w (ArgsP w (zargs op)) := by
  have HW := Lib.hid ((zform_any op h w hg).mono fun _ _ h => wsn_cases h)
  have hl := zform_len op h
  unfold zargs
  generalize zform op = ws at *
  match ws, hl, HW with
  | [], _, HW =>
    go_enter Tryz.func71, Tryz.ntmps71
    go_wp2_with fail
    refine (HW.out).mono ?_
    rintro e w1 ⟨hb, ⟨_, rfl⟩ | ⟨h, _⟩⟩
    · go_wp2_with fail
      go_ret
      exact ⟨_, rfl, ⟨none, 0, rfl, Nat.le_refl _, fun h => absurd h (by simp)⟩, hb⟩
    · exact absurd rfl h
  | [x], hl, HW =>
    go_enter Tryz.func71, Tryz.ntmps71
    go_wp2_with fail
    refine (HW.out).mono ?_
    rintro e w1 ⟨hb, ⟨h, _⟩ | ⟨_, g, rfl, hg, hg', hc⟩⟩
    · exact absurd h (by simp)
    have HX := Lib.hid (rd_tail hg' hc)
    clear hc HW
    go_wp2_with fail
    go_ret
    exact ⟨_, rfl, HX.out _ _ (by simp) (by simp), hb⟩
  | [x, y], hl, HW =>
    go_enter Tryz.func71, Tryz.ntmps71
    go_wp2_with fail
    refine (HW.out).mono ?_
    rintro e w1 ⟨hb, ⟨h, _⟩ | ⟨_, g, rfl, hg, hg', hc⟩⟩
    · exact absurd h (by simp)
    have HX := Lib.hid (rd_tail hg' hc)
    clear hc HW
    go_wp2_with fail
    go_ret
    exact ⟨_, rfl, HX.out _ _ (by simp) (by simp), hb⟩
  | [x, y, z], hl, HW =>
    go_enter Tryz.func71, Tryz.ntmps71
    go_wp2_with fail
    refine (HW.out).mono ?_
    rintro e w1 ⟨hb, ⟨h, _⟩ | ⟨_, g, rfl, hg, hg', hc⟩⟩
    · exact absurd h (by simp)
    have HX := Lib.hid (rd_tail hg' hc)
    clear hc HW
    go_wp2_with fail
    go_ret
    exact ⟨_, rfl, HX.out _ _ (by simp) (by simp), hb⟩
  | x :: y :: z :: u :: r, hl, _ => simp at hl
end Go.Proofs.YtagplldaooipmaaGreatDoor
