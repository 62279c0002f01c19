/- What the claim needs of PureCnfCounts: lemmas and contracts, cut by a program to what is used. -/
import Derived.Test.YtapbkoolddnjgaaQcPAx13
import Derived.Test.YtapbkoolddnjgaaQcPAx19
import Derived.Test.YtapbkoolddnjgaaQcPAx2
import Derived.Test.YtapbkoolddnjgaaQcPAx20
import Derived.Test.YtapbkoolddnjgaaQcPAx21
import Derived.Test.YtapbkoolddnjgaaQcPAx7
import Derived.Test.YtapbkoolddnjgaaQcPc
import Derived.Test.YtapbkoolddnjgaaQcPd
import Derived.Test.YtapbkoolddnjgaaQcPq
import Derived.Test.YtapbkoolddnjgaaQcPv
set_option linter.unusedVariables false
namespace Go.Proofs.Ytapbkoolddnjgaa.Pure
open Go.RowKit Go.Proofs.Ytapbkoolddnjgaa.PA Go.Proofs.YtapbkoolddnjgaaW.PrintWords Go.Proofs.YtapbkoolddnjgaaW.PrintLast Go.Proofs.Sl
theorem num_le (V : Nat) (l : List (List Int)) (t : List Int) : num V l t ≤ 2 ^ V := by
  unfold num cnt
  refine Nat.le_trans List.countP_le_length ?_
  rw [allM_bits]; simp
theorem literalErr_f (a n : Int) (l : List (List Int)) : ratchetref03_LiteralErr.f a l n = some (if n ≠ 0 ∧ wrap64 (-a) ≤ n ∧ n ≤ a then 0 else 2) := by
  unfold ratchetref03_LiteralErr.f
  rw [isLiteral_f, Option.bind_some]
  by_cases h : n ≠ 0 ∧ wrap64 (-a) ≤ n ∧ n ≤ a
  · rw [if_pos (by simpa using h), if_pos h]
  · rw [if_neg (by simpa using h), if_neg h]
theorem cnfCounts_at (a : Int) (l : List (List Int)) (n : Int) (K : Nat) (hK : 9000 ≤ K) : ratchetlaw03_CnfCounts.f (K + 1 + 1 + 1 + 1) a l n = some true := by
  unfold ratchetlaw03_CnfCounts.f ratchetlaw03_awake.f
  simp only [Option.bind_some, if_true]
  rw [few_f a l _ (by omega), Option.bind_some]
  by_cases hs : (decide (l.length ≤ 24) && slim l) = true
  · rw [if_pos hs]
    rw [Bool.and_eq_true, decide_eq_true_eq] at hs
    obtain ⟨hl, hs⟩ := hs
    have hs2 := slim_mem hs
    have hs3 : ∀ c ∈ l, c.length ≤ 1000000 := fun c hc => by have := hs2 c hc; omega
    rw [formulaErr_ref a l _ (by omega), Option.bind_some]
    have main : ¬ ((checkFormula a l).2 = 0 ∧ a > 9 ∧ a ≤ 16) → ratchetlaw03_CnfCounts.j0 (K + 1 + 1 + 1 + 1) n false a l = some true := by
      intro hbig
      rw [ratchetlaw03_CnfCounts.j0, if_neg (by simp), copy_f a l (by omega) hs3 _ (by omega), Option.bind_some]
      dsimp only
      unfold cnf_CountModels.f
      simp only [Option.bind_some]
      rw [formulaErr_ref a l _ (by omega)]
      by_cases hc : (checkFormula a l).2 = 0
      · obtain ⟨hv0, hv1, _, _⟩ := checkFormula_ok hc
        have hwa : wrap64 (-a) = -a := by unfold wrap64; omega
        by_cases h16 : a > 16
        · unfold cnf_Under.f
          simp only [Option.bind_some]
          rw [if_pos hc, if_pos h16]
          have : countModels a l = (0, 8) := by unfold countModels; rw [if_pos hc, if_neg (by omega)]
          rw [this]
          rfl
        · have h9 : a ≤ 9 := by omega
          have hva : ((a.toNat : Nat) : Int) = a := by omega
          have hlits := (formula_sv (fuel := 0) hc).1.lits
          have hcm := countModels_num hc (by omega)
          have hle := num_le a.toNat l []
          have h29 : 2 ^ a.toNat ≤ 512 := Nat.le_trans (Nat.pow_le_pow_right (by omega) (by omega : a.toNat ≤ 9)) (by decide)
          by_cases hn : n ≠ 0 ∧ -a ≤ n ∧ n ≤ a
          · have hwn : wrap64 (-n) = -n := by unfold wrap64; omega
            have under : ∀ x : Int, (x ≠ 0 ∧ -a ≤ x ∧ x ≤ a) → cnf_Under.f a l x = some (a, underL x l, 0) := by
              intro x hx
              unfold cnf_Under.f underErr
              rw [if_pos hc, hwa, if_pos hx, if_pos rfl]
            have ul : ∀ x : Int, (underL x l).length ≤ 24 ∧ ∀ c ∈ underL x l, c.length ≤ 14 := fun x => ⟨by have := underL_len x l; omega, fun c hcm => by
              obtain ⟨d, hd, rfl⟩ := underL_mem hcm
              have := List.length_filter_le (fun y => !opp x y) d
              have := hs2 d hd
              omega⟩
            rw [under n hn]
            simp only [Option.bind_some]
            rw [if_pos hc, if_neg h16, hcm]
            dsimp only
            rw [if_pos rfl, count_f hv0 h9 hl hc _ (by omega), Option.bind_some, ratchetlaw03_CnfCounts.j1, if_neg (by simp), literalErr_f, Option.bind_some, hwa, if_pos hn, if_pos rfl, if_pos rfl,
              under_f a n l hl hs2 _ (by omega), Option.bind_some]
            dsimp only
            rw [same_f a (underL n l) (by have := (ul n).1; omega) (ul n).2 _ (by have := (ul n).1; omega), Option.bind_some, ratchetlaw03_CnfCounts.j2, if_neg (by simp), copy_f a l (by omega) hs3 _ (by omega), Option.bind_some]
            dsimp only
            rw [hwn, under (-n) ⟨by omega, by omega, by omega⟩, Option.bind_some]
            dsimp only
            rw [if_pos rfl, under_f a (-n) l hl hs2 _ (by omega), Option.bind_some]
            dsimp only
            rw [same_f a (underL (-n) l) (by have := (ul (-n)).1; omega) (ul (-n)).2 _ (by have := (ul (-n)).1; omega), Option.bind_some, ratchetlaw03_CnfCounts.j3, if_neg (by simp)]
            unfold cnf_CountModels.f
            simp only [Option.bind_some]
            rw [countModels_num (check_under hc) (by omega), countModels_num (check_under hc) (by omega)]
            dsimp only
            rw [if_pos rfl, if_pos rfl]
            have hh := num_halves (V := a.toNat) (n := n) (by omega) hn.1 (by omega) (by omega) (l := l) (by rw [hva]; exact hlits)
            have a1 := num_le a.toNat (underL n l) []
            have a2 := num_le a.toNat (underL (-n) l) []
            congr 1
            rw [beq_iff_eq]
            unfold wrap64
            omega
          · have hue : underErr a l n = 2 := by unfold underErr; rw [if_pos hc, hwa, if_neg hn]
            have hu : cnf_Under.f a l n = some (0, [], 2) := by unfold cnf_Under.f; rw [hue, if_neg (by decide)]
            rw [hu]
            simp only [Option.bind_some]
            rw [if_pos hc, if_neg h16, hcm]
            dsimp only
            rw [if_pos rfl, count_f hv0 h9 hl hc _ (by omega), Option.bind_some, ratchetlaw03_CnfCounts.j1, if_neg (by simp), literalErr_f, Option.bind_some, hwa, if_neg hn, if_neg (by decide), if_pos rfl,
              same_f 0 [] (by simp) (by simp) _ (by simp; omega)]
            rfl
      · have hcm : countModels a l = (0, (checkFormula a l).2) := by unfold countModels; rw [if_neg hc]
        have hu : cnf_Under.f a l n = some (0, [], (checkFormula a l).2) := by unfold cnf_Under.f underErr; rw [if_neg hc, if_neg hc]
        rw [hu]
        simp only [Option.bind_some]
        rw [if_neg hc, hcm]
        dsimp only
        rw [if_pos rfl, if_pos rfl, if_pos trivial, same_f 0 [] (by simp) (by simp) _ (by simp; omega)]
        rfl
    by_cases hc : (checkFormula a l).2 = 0
    · rw [if_pos hc]
      by_cases h9 : a > 9
      · rw [if_pos h9]
        by_cases h16 : a ≤ 16
        · rw [show decide (a ≤ 16) = true by simpa using h16, ratchetlaw03_CnfCounts.j0, if_pos rfl]
        · rw [show decide (a ≤ 16) = false by simpa using h16]
          exact main (fun h => h16 h.2.2)
      · rw [if_neg h9]
        exact main (fun h => h9 h.2.1)
    · rw [if_neg hc]
      exact main (fun h => hc h.1)
  · rw [if_neg hs, ratchetlaw03_CnfCounts.j0, if_pos rfl]
theorem CnfCounts (a : Int) (l : List (List Int)) (n : Int) : ∃ k, ratchetlaw03_CnfCounts.f k a l n = some true := ⟨_, cnfCounts_at a l n 9000 (by omega)⟩
end Go.Proofs.Ytapbkoolddnjgaa.Pure
