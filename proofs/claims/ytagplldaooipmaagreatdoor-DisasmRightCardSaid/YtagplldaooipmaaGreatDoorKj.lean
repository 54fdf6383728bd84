/- Kj. -/
import Derived.Test.YtagplldaooipmaaGreatDoorKa
import Derived.Lib.SlBytesConst
import Derived.Deep.QuietTactic
import Derived.BigQuiet
import Derived.Deep.DeepCutAuto
import Derived.Deep.CutBlock
import Derived.Test.YtagplldaooipmaaGreatDoorKd
namespace Go.Proofs.YtagplldaooipmaaGreatDoor
open Go.RowKit
set_option maxHeartbeats 1000000 in
set_option maxRecDepth 100000 in
theorem refUpper_any (l : List UInt8) (w : World) (hl : l.length ≤ 1000000) :
    Calls Tryz.prog 89 #[.string ⟨l.toArray⟩] w fun e w' => e = .returned (.string ⟨(upper l).toArray⟩) ∧ Below w.heap.size w w' := by
  obtain ⟨i0, hi, hz0, hz1, hz2⟩ := info_parts info_u8
  go_enter Tryz.func89, Tryz.ntmps89
  go_wp2
  go_loopw [3, 4, 5] (fun v i _ wr => ∃ k : Nat, k ≤ l.length ∧ i = .int .i64 k ∧ wr.ownsRow w.heap.size 5 1 v k ((upper (l.take k)).map bv) ∧ Below w.heap.size w wr) (fun _ i _ _ => l.length - (intOf i).toNat)
  case atStart => exact ⟨0, Nat.zero_le _, rfl, World.ownsRow_nil _ _ _ _, Below.refl _ _⟩
  case round =>
    obtain ⟨k, hk, rfl, hown, hb⟩ := hrel
    by_cases hlt : k < l.length
    · have HS := Lib.hid (up_snoc l k hlt)
      have hsz := hb.size
      by_cases hc : 97 ≤ l[k].toNat ∧ l[k].toNat ≤ 122
      · obtain ⟨h1, h2⟩ := hc
        have h1' : (97 : Int) ≤ (l[k].toNat : Int) := by omega
        have h2' : (l[k].toNat : Int) ≤ 122 := by omega
        go_wp2_with (at_builtin; refine wpList_append_own _ rfl _ _ 22 rfl w.heap.size 5 i0 (.int .u8 0) 1 1 Tryz.underlying22 hi hz0 hz1 hz2 rfl (by decide) _ _ _ rfl (hown.alloc _) ⟨wr.heap.size, 0, none⟩ 1 1 [.int .u8 ((l[k].toNat : Int) - 32)] rfl rfl (cell_one_new _ _ _) ?c2 ?c3 ?c4 ?c5 ?_)
        case c2 => intro u hu; simp at hu; subst hu; rfl
        case c3 => unfold maxLen; omega
        case c4 => omega
        case c5 => simp; omega
        intro v' w1 hown' hgrow _
        have hb1 : Below w.heap.size w w1 := (hb.alloc hsz _).grown hgrow (by simp; omega) (fun g hg => (hown.lt g hg).1)
        have R : w1.ownsRow w.heap.size 5 1 v' (k + 1) ((upper (l.take (k + 1))).map bv) := by rw [HS.out, ← up_val32 _ h1 h2]; exact hown'
        clear hown' hgrow hown
        go_wp2
        go_roundw
        case rel => exact ⟨k + 1, by omega, by go_num, R, hb1⟩
        case measure => simp [intOf]; omega
      · have hno := Lib.hid (show upB l[k] = l[k] by unfold upB; rw [if_neg hc])
        have hcs : (l[k].toNat : Int) < 97 ∨ ((97 : Int) ≤ (l[k].toNat : Int) ∧ (122 : Int) < (l[k].toNat : Int)) := by omega
        clear hc
        rcases hcs with h1 | ⟨h1, h2⟩
        all_goals
          go_wp2_with (at_builtin; refine wpList_append_own _ rfl _ _ 22 rfl w.heap.size 5 i0 (.int .u8 0) 1 1 Tryz.underlying22 hi hz0 hz1 hz2 rfl (by decide) _ _ _ rfl (hown.alloc _) ⟨wr.heap.size, 0, none⟩ 1 1 [.int .u8 (l[k].toNat : Int)] rfl rfl (cell_one_new _ _ _) (by intro u hu; simp at hu; subst hu; rfl) (by unfold maxLen; omega) (by omega) (by simp; omega) ?_)
          intro v' w1 hown' hgrow _
          have hb1 : Below w.heap.size w w1 := (hb.alloc hsz _).grown hgrow (by simp; omega) (fun g hg => (hown.lt g hg).1)
          have R : w1.ownsRow w.heap.size 5 1 v' (k + 1) ((upper (l.take (k + 1))).map bv) := by rw [HS.out, hno.out]; exact hown'
          clear hown' hgrow hown
          go_wp2
          go_roundw
          case rel => exact ⟨k + 1, by omega, by go_num, R, hb1⟩
          case measure => simp [intOf]; omega
    · obtain rfl : k = l.length := by omega
      rw [List.take_length] at hown
      have hcv := conv_own (P := Tryz.prog) wr 22 9 5 w.heap.size l.length u3 (upper l) Tryz.underlying22 Tryz.underlying5 Tryz.underlying9 (by simp [upper]) hown
      clear hown
      go_wp2
      go_ret
      exact ⟨rfl, hb⟩
end Go.Proofs.YtagplldaooipmaaGreatDoor
/- The reference's Quote, Unquote, Value; number.Value. -/
namespace Go.Proofs.YtagplldaooipmaaGreatDoor
open Go.RowKit
end Go.Proofs.YtagplldaooipmaaGreatDoor
/- The reference's Parse. -/
namespace Go.Proofs.YtagplldaooipmaaGreatDoor
open Go.RowKit
end Go.Proofs.YtagplldaooipmaaGreatDoor
/- The reference's Unquote. -/
namespace Go.Proofs.YtagplldaooipmaaGreatDoor
open Go.RowKit
def UnqAt (t xs : List UInt8) (k : Nat) : Prop := unq t = (unq (t.drop k)).map (xs ++ ·)
theorem UnqAt.zero (t : List UInt8) : UnqAt t [] 0 := by unfold UnqAt; simp
theorem UnqAt.step {t xs : List UInt8} {k j : Nat} {c : UInt8} (h : UnqAt t xs k) (h2 : unq (t.drop k) = (unq (t.drop j)).map (c :: ·)) : UnqAt t (xs ++ [c]) j := by
  unfold UnqAt at *
  rw [h, h2, Option.map_map]
  congr 1
  funext x; simp
theorem UnqAt.none {t xs : List UInt8} {k : Nat} (h : UnqAt t xs k) (h2 : unq (t.drop k) = none) : unq t = none := by
  unfold UnqAt at h; rw [h, h2]; rfl
theorem UnqAt.end_ {t xs : List UInt8} (h : UnqAt t xs t.length) : unq t = some xs := by
  unfold UnqAt at h; rw [h, List.drop_length, unq]; simp
end Go.Proofs.YtagplldaooipmaaGreatDoor
/- The reference's mark and next. -/
namespace Go.Proofs.YtagplldaooipmaaGreatDoor
open Go.RowKit
end Go.Proofs.YtagplldaooipmaaGreatDoor
/- The reference's Line. -/
namespace Go.Proofs.YtagplldaooipmaaGreatDoor
open Go.RowKit
end Go.Proofs.YtagplldaooipmaaGreatDoor
/- Back and Own. -/
namespace Go.Proofs.YtagplldaooipmaaGreatDoor
open Go.RowKit
end Go.Proofs.YtagplldaooipmaaGreatDoor
/- token.Show. -/
namespace Go.Proofs.YtagplldaooipmaaGreatDoor
open Go.RowKit
theorem info_str : (Tryz.prog.info? 9).map (fun i => (i.zero, i.size, i.bytes)) = some (some (.string ⟨#[]⟩), 1, 16) := by kernel_rfl
theorem one_str (b : ByteArray) : ∀ u ∈ [Value.string b], u.oneCell' = true := by intro u hu; simp at hu; subst hu; rfl
end Go.Proofs.YtagplldaooipmaaGreatDoor
