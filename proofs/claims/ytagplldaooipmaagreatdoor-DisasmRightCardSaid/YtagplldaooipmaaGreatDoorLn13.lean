/- Ln13. -/
import Derived.Test.YtagplldaooipmaaGreatDoorLn10
import Derived.Test.YtagplldaooipmaaGreatDoorLn11
import Derived.Test.YtagplldaooipmaaGreatDoorLn12
namespace Go.Proofs.YtagplldaooipmaaGreatDoor
open Go.RowKit
theorem Right12_any (d : Int) (s : St) (v : Value) (w : World) (hg : GWL w) (hf : fitS s) (hs : ArAt w (· < w.heap.size) v s.args) :
    Calls Tryz.prog 12 #[.int .i64 d, stV s v] w fun e w' => e = .returned (.int .i64 (rightS d s)) ∧ Below w.heap.size w w' := by
  obtain ⟨lab, colon, op, args⟩ := s
  unfold rightS stV
  simp only at *
  cases hk : knownB d with
  | false => simpa using Right12_u d lab colon op args v w hg hf hs hk
  | true =>
    by_cases hl : lab = []
    · by_cases ho : op = []
      · by_cases ha : args = []
        · cases hcl : colon with
          | true => subst hcl hl ho ha; simpa [setsB] using Right12_a3 d [] true [] [] v w hg hf hs hk rfl rfl rfl rfl
          | false => subst hcl hl ho ha; simpa [setsB] using Right12_a4 d [] false [] [] v w hg hf hs hk rfl rfl rfl rfl
        · subst hl ho; simpa [ha] using Right12_a2 d [] colon [] args v w hg hf hs hk rfl rfl ha
      · cases hgr : greatB op with
        | false => subst hl; simpa [ho] using Right12_a5 d [] colon op args v w hg hf hs hk rfl ho hgr
        | true =>
          cases hse : setsB op with
          | true => subst hl; simpa [ho] using Right12_a6 d [] colon op args v w hg hf hs hk rfl ho hgr hse
          | false =>
            cases hcl : colon with
            | true => subst hcl hl; simpa [ho] using Right12_a7 d [] true op args v w hg hf hs hk rfl ho hgr hse rfl
            | false =>
              subst hcl hl
              by_cases hn : 32 < args.length
              · simpa [ho, hn] using Right12_a8 d [] false op args v w hg hf hs hk rfl ho hgr hse rfl hn
              · cases hal : args.all (rightA d op) with
                | true => simpa [ho, hn] using Right12_a9t d [] false op args v w hg hf hs hk rfl ho hgr hse rfl (by omega) hal
                | false => simpa [ho, hn] using Right12_a9f d [] false op args v w hg hf hs hk rfl ho hgr hse rfl (by omega) hal
    · cases hp : plainB d lab with
      | false => simpa [hl] using Right12_b1 d lab colon op args v w hg hf hs hk hl hp
      | true =>
        by_cases ho : op = []
        · by_cases ha : args = []
          · cases hcl : colon with
            | true => subst hcl ho ha; simpa [setsB, hl] using Right12_b4 d lab true [] [] v w hg hf hs hk hl hp rfl rfl rfl
            | false => subst hcl ho ha; simpa [setsB, hl] using Right12_b3 d lab false [] [] v w hg hf hs hk hl hp rfl rfl rfl
          · subst ho; simpa [ha, hl] using Right12_b2 d lab colon [] args v w hg hf hs hk hl hp rfl ha
        · cases hgr : greatB op with
          | false => simpa [ho, hl] using Right12_b5 d lab colon op args v w hg hf hs hk hl hp ho hgr
          | true =>
            cases hse : setsB op with
            | true =>
              cases hcl : colon with
              | true => subst hcl; simpa [ho, hl] using Right12_c1t d lab true op args v w hg hf hs hk hl hp ho hgr hse rfl
              | false =>
                subst hcl
                by_cases hn : 32 < args.length
                · simpa [ho, hl, hn] using Right12_c2t d lab false op args v w hg hf hs hk hl hp ho hgr hse rfl hn
                · cases hal : args.all (rightA d op) with
                  | true => simpa [ho, hl, hn] using Right12_c3tt d lab false op args v w hg hf hs hk hl hp ho hgr hse rfl (by omega) hal
                  | false => simpa [ho, hl, hn] using Right12_c3tf d lab false op args v w hg hf hs hk hl hp ho hgr hse rfl (by omega) hal
            | false =>
              cases hcl : colon with
              | false => subst hcl; simpa [ho, hl] using Right12_c1f d lab false op args v w hg hf hs hk hl hp ho hgr hse rfl
              | true =>
                subst hcl
                by_cases hn : 32 < args.length
                · simpa [ho, hl, hn] using Right12_c2f d lab true op args v w hg hf hs hk hl hp ho hgr hse rfl hn
                · cases hal : args.all (rightA d op) with
                  | true => simpa [ho, hl, hn] using Right12_c3ft d lab true op args v w hg hf hs hk hl hp ho hgr hse rfl (by omega) hal
                  | false => simpa [ho, hl, hn] using Right12_c3ff d lab true op args v w hg hf hs hk hl hp ho hgr hse rfl (by omega) hal
end Go.Proofs.YtagplldaooipmaaGreatDoor
