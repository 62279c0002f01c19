/- The pure side of the law CnfChecks: whatever the formula and the model, the law's function answers true. -/
import Derived.Test.YtapbkoolddnjgaaPBx1
import Derived.Test.YtapbkoolddnjgaaPBx13
import Derived.Test.YtapbkoolddnjgaaPBx14
import Derived.Test.YtapbkoolddnjgaaPBx18
import Derived.Test.YtapbkoolddnjgaaPBx2
import Derived.Test.YtapbkoolddnjgaaPqB

set_option linter.unusedVariables false
namespace Go.Proofs.Ytapbkoolddnjgaa.Pure
open Go.RowKit Go.Proofs.Ytapbkoolddnjgaa.PB Go.Proofs.YtapbkoolddnjgaaW.PrintWords Go.Proofs.YtapbkoolddnjgaaW.PrintLast Go.Proofs.Sl
theorem falseIn_ok (a : Int) (l : List (List Int)) (m : List Int) (hc : (checkFormula a l).2 = 0) : falseIn a l m = if modelErr a m = 0 then (falseFrom m 0 l, 0) else ([], modelErr a m) := by
  unfold falseIn modelErr
  rw [if_neg (fun h => h hc)]
  by_cases hml : (m.length : Int) = a
  · rw [if_neg (fun h => h hml), if_pos hml]
    by_cases ho : m.any (fun n => !decide (0 ≤ n ∧ n ≤ 1)) = true
    · rw [if_pos ho, if_pos ho, if_neg (by decide)]
    · rw [if_neg ho, if_neg ho, if_pos rfl]
  · rw [if_pos hml, if_neg hml, if_neg (by decide)]
theorem cnfChecks_at (a : Int) (l : List (List Int)) (m : List Int) (K : Nat) (hK : 5000 ≤ K) : ratchetlaw03_CnfChecks.f (K + 1 + 1 + 1) a l m = some true := by
  unfold ratchetlaw03_CnfChecks.f ratchetlaw03_awake.f
  simp only [Option.bind_some, if_true]
  rw [many_f a l _ (by omega), Option.bind_some]
  by_cases hs : (decide (l.length ≤ 200) && slim l) = true
  · rw [if_pos hs]
    rw [Bool.and_eq_true, decide_eq_true_eq] at hs
    obtain ⟨hl, hs⟩ := hs
    have hs2 := slim_mem hs
    have hs3 : ∀ c ∈ l, c.length ≤ 1000000 := fun c hc => by have := hs2 c hc; omega
    simp only [ratchetlaw03_CnfChecks.j0]
    by_cases hm : (m.length : Int) > 1002
    · rw [if_pos (by simpa using hm)]
    · rw [if_neg (by simpa using hm)]
      rw [copy_f a l (by omega) hs3 _ (by omega)]
      simp only [Option.bind_some]
      rw [copyInts_f m (by omega)]
      unfold cnf_CheckFormula.f cnf_FalseIn.f
      simp only [Option.bind_some]
      rw [refCheck_f a l _ (by omega)]
      simp only [Option.bind_some, if_true]
      simp only [ratchetlaw03_CnfChecks.j1]
      rw [if_neg (by simp)]
      by_cases hc : (checkFormula a l).2 = 0
      · rw [if_pos hc, modelErr_f a l m (by omega) _ (by omega), Option.bind_some]
        simp only [ratchetlaw03_CnfChecks.j2]
        rw [falseIn_ok a l m hc]
        by_cases he : modelErr a m = 0
        · rw [if_pos he, if_pos he]
          dsimp only
          rw [if_pos rfl]
          have hml : (m.length : Int) = a := by
            unfold modelErr at he
            by_cases h : (m.length : Int) = a
            · exact h
            · rw [if_neg h] at he; simp at he
          have ho : ¬ m.any (fun n => !decide (0 ≤ n ∧ n ≤ 1)) = true := by
            intro h
            unfold modelErr at he
            rw [if_pos hml, if_pos h] at he
            simp at he
          have hb : ∀ n ∈ m, n = 0 ∨ n = 1 := by
            intro n hn
            have h1 : ¬ (!decide (0 ≤ n ∧ n ≤ 1)) = true := fun h => ho (List.any_eq_true.2 ⟨n, hn, h⟩)
            simp only [Bool.not_eq_true', decide_eq_false_iff_not, Decidable.not_not] at h1
            omega
          obtain ⟨hv0, hv1, _, hv2⟩ := checkFormula_ok hc
          have hlit : ∀ c ∈ l, c.length ≤ 12 ∧ ∀ n ∈ c, litIn m n ∧ n ≠ 0 ∧ -1000000 ≤ n ∧ n ≤ 1000000 := by
            intro c hcm
            have h8 := hv2 c hcm
            refine ⟨?_, fun n hn => ?_⟩
            · unfold litErr at h8
              by_cases h12 : (c.length : Int) > 12
              · rw [if_pos h12] at h8; simp at h8
              · omega
            · obtain ⟨h5, h6, h7⟩ := litErr_mem h8 n hn
              have hw : wrap64 (-a) = -a := by unfold wrap64; omega
              rw [hw] at h6
              exact ⟨litIn_ok hc hml hcm hn, h5, by omega, by omega⟩
          rw [false_f a l m (by omega) (by omega) hb hlit _ (by omega), Option.bind_some]
          have := falseFrom_len m l 0
          rw [ints_same _ (by omega) _ (by omega)]
          rfl
        · rw [if_neg he, if_neg he]
          dsimp only
          rw [if_pos rfl]
          rfl
      · rw [if_neg hc]
        simp only [ratchetlaw03_CnfChecks.j2]
        unfold falseIn
        rw [if_pos hc, if_neg hc]
        dsimp only
        rw [if_pos rfl]
        rfl
  · rw [if_neg hs]
    simp only [ratchetlaw03_CnfChecks.j0]
    rw [if_pos trivial]
theorem CnfChecks (a : Int) (l : List (List Int)) (m : List Int) : ∃ k, ratchetlaw03_CnfChecks.f k a l m = some true := ⟨_, cnfChecks_at a l m 5000 (by omega)⟩
end Go.Proofs.Ytapbkoolddnjgaa.Pure
