/- What the claim needs of Pd: lemmas and contracts, cut by a program to what is used. -/
import Derived.Test.YtapbkoolddnjgaaQfPAx0
import Derived.Test.YtapbkoolddnjgaaQfPAx1
import Derived.Test.YtapbkoolddnjgaaQfPAx14
import Derived.Test.YtapbkoolddnjgaaQfPAx18
import Derived.Test.YtapbkoolddnjgaaQfPAx19
import Derived.Test.YtapbkoolddnjgaaQfPAx2
import Derived.Test.YtapbkoolddnjgaaQfPAx17
import Derived.Test.YtapbkoolddnjgaaQfPc
import Derived.Test.YtapbkoolddnjgaaQfPq
import Derived.Test.YtapbkoolddnjgaaQfPv
set_option linter.unusedVariables false
set_option linter.unusedSimpArgs false
namespace Go.Proofs.Ytapbkoolddnjgaa.Pure
open Go.RowKit Go.Proofs.Ytapbkoolddnjgaa.PA Go.Proofs.YtapbkoolddnjgaaW.PrintWords Go.Proofs.YtapbkoolddnjgaaW.PrintLast Go.Proofs.Sl
theorem few_l0 (a : Int) (l : List (List Int)) (hl : l.length ≤ 24) : ∀ (d i k : Nat), i + d = l.length → d < k → ratchetlaw03_Few.l0 k (i : Int) a l = some (slim (l.drop i)) := by
  intro d
  induction d with
  | zero =>
    intro i k hi hk
    obtain ⟨k, rfl⟩ : ∃ m, k = m + 1 := ⟨k - 1, by omega⟩
    rw [List.drop_of_length_le (by omega)]
    simp only [ratchetlaw03_Few.l0]
    rw [if_neg (by omega)]
    rfl
  | succ d ih =>
    intro i k hi hk
    obtain ⟨k, rfl⟩ : ∃ m, k = m + 1 := ⟨k - 1, by omega⟩
    have hlt : i < l.length := by omega
    rw [drop_rdL hlt]
    simp only [ratchetlaw03_Few.l0]
    rw [if_pos (by omega), if_pos (by omega)]
    generalize rd_L1 l (i : Int) = c
    unfold slim
    rw [List.all_cons]
    by_cases h : c.length ≤ 14
    · rw [if_neg (by omega), w_succ (by omega), ih (i + 1) k (by omega) (by omega)]
      simp [h, slim]
    · rw [if_pos (by omega)]
      simp [h]
theorem few_f (a : Int) (l : List (List Int)) (k : Nat) (hk : 25 < k) : ratchetlaw03_Few.f k a l = some (decide (l.length ≤ 24) && slim l) := by
  unfold ratchetlaw03_Few.f
  by_cases h : l.length ≤ 24
  · rw [if_neg (by omega)]
    have := few_l0 a l h l.length 0 k (by omega) (by omega)
    rw [show ((0 : Nat) : Int) = 0 from rfl] at this
    rw [this]
    simp [h]
  · rw [if_pos (by omega)]
    simp [h]
theorem formulaErr_ref (a : Int) (l : List (List Int)) (k : Nat) (hk : l.length + 12 < k) : ratchetref03_FormulaErr.f k a l = some (checkFormula a l).2 := by
  unfold ratchetref03_FormulaErr.f
  rw [refCheck_f a l k hk]
  rfl
theorem lits_ok {a : Int} {l : List (List Int)} {m : List Int} (hc : (checkFormula a l).2 = 0) (hml : (m.length : Int) = a) : ∀ c ∈ l, c.length ≤ 12 ∧ ∀ n ∈ c, litIn m n ∧ n ≠ 0 ∧ -1000000 ≤ n ∧ n ≤ 1000000 := by
  obtain ⟨hv0, hv1, _, hv2⟩ := checkFormula_ok hc
  intro c hcm
  have h8 := hv2 c hcm
  refine ⟨?_, fun n hn => ?_⟩
  · unfold litErr at h8
    by_cases h12 : (c.length : Int) > 12
    · rw [if_pos h12] at h8; simp at h8
    · omega
  · obtain ⟨h5, h6, h7⟩ := litErr_mem h8 n hn
    have hw : wrap64 (-a) = -a := by unfold wrap64; omega
    rw [hw] at h6
    exact ⟨litIn_ok hc hml hcm hn, h5, by omega, by omega⟩
def bitsM (V n : Nat) : List Int := (List.range V).map (fun i => ((n / 2 ^ i % 2 : Nat) : Int))
theorem bitsM_low {V n : Nat} (h : n < 2 ^ V) : bitsM (V + 1) n = bitsM V n ++ [0] := by
  unfold bitsM
  rw [List.range_succ, List.map_append]
  congr 1
  show [((n / 2 ^ V % 2 : Nat) : Int)] = [0]
  rw [Nat.div_eq_of_lt h]
  rfl
theorem bitsM_high {V n : Nat} (h : n < 2 ^ V) : bitsM (V + 1) (2 ^ V + n) = bitsM V n ++ [1] := by
  unfold bitsM
  rw [List.range_succ, List.map_append]
  congr 1
  · refine List.map_congr_left (fun i hi => ?_)
    have hi := List.mem_range.1 hi
    congr 1
    have hp : 2 ^ V = 2 ^ i * (2 * 2 ^ (V - i - 1)) := by
      rw [← Nat.mul_assoc, ← Nat.pow_succ, ← Nat.pow_add]
      congr 1; omega
    rw [hp, Nat.mul_add_div (Nat.two_pow_pos i), Nat.mul_add_mod]
  · have : (2 ^ V + n) / 2 ^ V = 1 := by
      rw [Nat.add_div_left _ (Nat.two_pow_pos V), Nat.div_eq_of_lt h]
    show [(((2 ^ V + n) / 2 ^ V % 2 : Nat) : Int)] = [1]
    rw [this]
    rfl
theorem allM_bits : ∀ V : Nat, allM V = (List.range (2 ^ V)).map (bitsM V)
  | 0 => rfl
  | V + 1 => by
    have hs : 2 ^ (V + 1) = 2 ^ V + 2 ^ V := by rw [Nat.pow_succ]; omega
    rw [allM, allM_bits V, hs, List.range_add, List.map_append, List.map_map, List.map_map, List.map_map]
    congr 1
    · exact List.map_congr_left (fun n hn => (bitsM_low (List.mem_range.1 hn)).symm)
    · exact List.map_congr_left (fun n hn => (bitsM_high (List.mem_range.1 hn)).symm)
theorem power_small : ∀ j : Nat, j ≤ 16 → ratchetbase_Power.f (j : Int) = some ((2 ^ j : Nat) : Int) := by decide +kernel
theorem rdL_of {l : List (List Int)} {i : Nat} (h : i < l.length) : rd_L1 l (i : Int) = l[i] := by simp [rd_L1, h]
theorem eachU_all {α : Type} (f : α → Int) : ∀ (l : List α) (i : Nat), (∀ c ∈ l, f c = 0) → (eachRun (fun (_ : Unit) (_ : Nat) c => (f c, ())) () i l).1 = (0, 0)
  | [], _, _ => rfl
  | x :: l, i, h => by
    rw [eachRun_cons, if_pos (h x (List.mem_cons_self ..))]
    exact eachU_all f l (i + 1) (fun c hc => h c (List.mem_cons_of_mem _ hc))
end Go.Proofs.Ytapbkoolddnjgaa.Pure
