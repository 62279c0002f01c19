/- What the claim needs of Pq: lemmas and contracts, cut by a program to what is used. -/
import Derived.Test.YtapbkoolddnjgaaQfPAx0
import Derived.Test.YtapbkoolddnjgaaQfPAx1
import Derived.Test.YtapbkoolddnjgaaQfPAx13
import Derived.Test.YtapbkoolddnjgaaQfPAx14
import Derived.Test.YtapbkoolddnjgaaQfPAx15
import Derived.Test.YtapbkoolddnjgaaQfPAx16
import Derived.Test.YtapbkoolddnjgaaQfPAx17
import Derived.Test.YtapbkoolddnjgaaQfPAx2
set_option linter.unusedVariables false
set_option linter.unusedSimpArgs false
namespace Go.Proofs.Ytapbkoolddnjgaa.Pure
open Go.RowKit Go.Proofs.Ytapbkoolddnjgaa.PA Go.Proofs.YtapbkoolddnjgaaW.PrintWords Go.Proofs.YtapbkoolddnjgaaW.PrintLast Go.Proofs.Sl
theorem w_succ {i : Nat} (h : i ≤ 9000000000000000000) : wrap64 ((i : Int) + 1) = ((i + 1 : Nat) : Int) := by unfold wrap64; omega
theorem drop_rd {l : List Int} {i : Nat} (h : i < l.length) : l.drop i = rd l (i : Int) :: l.drop (i + 1) := by
  rw [List.drop_eq_getElem_cons h]; simp [rd, h]
theorem drop_rdL {l : List (List Int)} {i : Nat} (h : i < l.length) : l.drop i = rd_L1 l (i : Int) :: l.drop (i + 1) := by
  rw [List.drop_eq_getElem_cons h]; simp [rd_L1, h]
theorem eachRun_cons {α σ : Type} (step : σ → Nat → α → Int × σ) (s : σ) (i : Nat) (x : α) (l : List α) : eachRun step s i (x :: l) = if (step s i x).1 = 0 then eachRun step (step s i x).2 (i + 1) l else ((((i : Nat) : Int), (step s i x).1), (step s i x).2) := rfl
def slim (l : List (List Int)) : Bool := l.all (fun c => decide (c.length ≤ 14))
theorem copyInts_f (l : List Int) (h : l.length < 17592186044416) : ratchetbase_CopyInts.f l = some l := by
  unfold ratchetbase_CopyInts.f
  simp only [Option.bind_some, List.length_nil, List.nil_append]
  rw [if_pos (by omega)]
theorem slim_mem {l : List (List Int)} (h : slim l = true) : ∀ c ∈ l, c.length ≤ 14 := by
  intro c hc
  unfold slim at h
  have := List.all_eq_true.1 h c hc
  simpa using this
theorem copyLists_l0 (l : List (List Int)) (hl : l.length ≤ 1000000) (hs : ∀ c ∈ l, c.length ≤ 1000000) : ∀ (d i k : Nat) (acc : List (List Int)), i + d = l.length → acc.length = i → d < k → ratchetbase_CopyLists.l0 k l acc (i : Int) = some (acc ++ l.drop i) := by
  intro d
  induction d with
  | zero =>
    intro i k acc hi ha hk
    obtain ⟨k, rfl⟩ : ∃ m, k = m + 1 := ⟨k - 1, by omega⟩
    rw [List.drop_of_length_le (by omega), List.append_nil]
    simp only [ratchetbase_CopyLists.l0]
    rw [if_neg (by omega)]
  | succ d ih =>
    intro i k acc hi ha hk
    obtain ⟨k, rfl⟩ : ∃ m, k = m + 1 := ⟨k - 1, by omega⟩
    have hlt : i < l.length := by omega
    have hm : rd_L1 l (i : Int) ∈ l := by
      have h2 := drop_rdL hlt
      have : rd_L1 l (i : Int) ∈ l.drop i := by rw [h2]; simp
      exact List.mem_of_mem_drop this
    rw [drop_rdL hlt]
    simp only [ratchetbase_CopyLists.l0]
    rw [if_pos (by omega), if_pos (by omega)]
    have hc := hs _ hm
    generalize rd_L1 l (i : Int) = c at hc
    rw [copyInts_f c (by omega), Option.bind_some, if_pos (by omega), w_succ (by omega), ih (i + 1) k (acc ++ [c]) (by omega) (by simp [ha]) (by omega)]
    simp
theorem copy_f (a : Int) (l : List (List Int)) (hl : l.length ≤ 1000000) (hs : ∀ c ∈ l, c.length ≤ 1000000) (k : Nat) (hk : l.length < k) : ratchetref03_Copy.f k a l = some (a, l) := by
  unfold ratchetref03_Copy.f ratchetbase_CopyLists.f
  have := copyLists_l0 l hl hs l.length 0 k [] (by omega) rfl (by omega)
  rw [show ((0 : Nat) : Int) = 0 from rfl] at this
  rw [this]
  simp
theorem within_f (a lo hi : Int) : ratchetbase_Within.f a lo hi = some (decide (lo ≤ a ∧ a ≤ hi)) := by
  unfold ratchetbase_Within.f
  split <;> simp_all <;> omega
theorem isLiteral_f (v n : Int) : ratchetref03_isLiteral.f v n = some (decide (n ≠ 0 ∧ wrap64 (-v) ≤ n ∧ n ≤ v)) := by
  unfold ratchetref03_isLiteral.f
  by_cases h : n = 0
  · rw [if_pos h]; simp [h]
  · rw [if_neg h, within_f]; simp [h]
theorem literals_l0 (vars : Int) (hv : 0 ≤ vars ∧ vars ≤ 1000) (c : List Int) (hl : c.length ≤ 1000000) : ∀ (d i k j : Nat) (b : Int), i + d = c.length → d < k → (b = if i = 0 then 0 else mx (rd c ((i : Int) - 1)) (wrap64 (-(rd c ((i : Int) - 1))))) →
    ratchetref03_literals.l0 k vars c (i : Int) = some (eachRun (fun b (_ : Nat) n => litStep vars b n) b j (c.drop i)).1.2 := by
  intro d
  induction d with
  | zero =>
    intro i k j b hi hk hb
    obtain ⟨k, rfl⟩ : ∃ m, k = m + 1 := ⟨k - 1, by omega⟩
    rw [List.drop_of_length_le (by omega)]
    simp only [ratchetref03_literals.l0]
    rw [if_neg (by omega)]
    rfl
  | succ d ih =>
    intro i k j b hi hk hb
    obtain ⟨k, rfl⟩ : ∃ m, k = m + 1 := ⟨k - 1, by omega⟩
    have hlt : i < c.length := by omega
    have hn := ih (i + 1) k (j + 1) (mx (rd c (i : Int)) (wrap64 (-(rd c (i : Int))))) (by omega) (by omega) (by rw [if_neg (by omega), show ((i + 1 : Nat) : Int) - 1 = (i : Int) from by omega])
    rw [drop_rd hlt]
    simp only [ratchetref03_literals.l0]
    rw [if_pos (by omega), if_pos (by omega), isLiteral_f, Option.bind_some, w_succ (by omega)]
    generalize rd c (i : Int) = n at hn ⊢
    rw [eachRun_cons]; unfold litStep
    by_cases h0 : n = 0
    · simp [h0]
    · by_cases hw : wrap64 (-vars) ≤ n ∧ n ≤ vars
      · rw [if_neg h0, if_pos hw, if_pos (by simp [h0, hw])]
        have hwr : wrap64 (-vars) = -vars := by unfold wrap64; omega
        have hwn : wrap64 (-n) = -n := by unfold wrap64; omega
        have hmx : 1 ≤ mx n (wrap64 (-n)) := by rw [hwn]; unfold mx; split <;> omega
        by_cases hi0 : i = 0
        · rw [if_pos hi0] at hb
          subst hb
          rw [if_neg (by omega : ¬ (i : Int) > 0)]
          dsimp only
          rw [if_pos (by omega : mx n (wrap64 (-n)) > 0), if_pos rfl]
          exact hn
        · rw [if_neg hi0] at hb
          have hw1 : wrap64 ((i : Int) - 1) = (i : Int) - 1 := by unfold wrap64; omega
          rw [if_pos (by omega : (i : Int) > 0), hw1]
          unfold ratchetbase_Size.f
          simp only [Option.bind_some]
          rw [if_pos (by omega), if_pos (by omega), ← hb]
          by_cases hg : mx n (wrap64 (-n)) > b
          · rw [if_neg (by omega), if_pos hg, if_pos rfl]
            exact hn
          · rw [if_pos (by omega), if_neg hg, if_neg (by decide)]
      · rw [if_neg h0, if_neg hw, if_neg (by simp; intro _; omega)]
        simp
theorem clauseErr_f (vars : Int) (hv : 0 ≤ vars ∧ vars ≤ 1000) (c : List Int) (k : Nat) (hk : 12 < k) : ratchetref03_ClauseErr.f k vars c = some (litErr vars c 12) := by
  unfold ratchetref03_ClauseErr.f litErr
  by_cases h : (c.length : Int) > 12
  · rw [if_pos h, if_pos h]
  · rw [if_neg h, if_neg h]
    unfold ratchetref03_literals.f
    have := literals_l0 vars hv c (by omega) c.length 0 k 0 0 (by omega) (by omega) rfl
    rw [show ((0 : Nat) : Int) = 0 from rfl] at this
    rw [this]
    simp
theorem refCheck_l0 (vars : Int) (hv : 0 ≤ vars ∧ vars ≤ 1000) (l : List (List Int)) (hl : l.length ≤ 4000) : ∀ (d i k : Nat), i + d = l.length → d + 12 < k → ratchetref03_CheckFormula.l0 k (i : Int) vars l = some (eachRun (fun (_ : Unit) (_ : Nat) c => (litErr vars c 12, ())) () i (l.drop i)).1 := by
  intro d
  induction d with
  | zero =>
    intro i k hi hk
    obtain ⟨k, rfl⟩ : ∃ m, k = m + 1 := ⟨k - 1, by omega⟩
    rw [List.drop_of_length_le (by omega)]
    simp only [ratchetref03_CheckFormula.l0]
    rw [if_neg (by omega)]
    rfl
  | succ d ih =>
    intro i k hi hk
    obtain ⟨k, rfl⟩ : ∃ m, k = m + 1 := ⟨k - 1, by omega⟩
    have hlt : i < l.length := by omega
    rw [drop_rdL hlt]
    simp only [ratchetref03_CheckFormula.l0]
    rw [if_pos (by omega), if_pos (by omega), clauseErr_f vars hv _ k (by omega), Option.bind_some, w_succ (by omega), ih (i + 1) k (by omega) (by omega)]
    rw [eachRun_cons]
    by_cases h : litErr vars (rd_L1 l (i : Int)) 12 = 0
    · rw [if_pos h, if_pos h]
    · rw [if_neg h, if_neg h]
theorem refCheck_f (vars : Int) (l : List (List Int)) (k : Nat) (hk : l.length + 12 < k) : ratchetref03_CheckFormula.f k vars l = some (checkFormula vars l) := by
  unfold ratchetref03_CheckFormula.f checkFormula
  rw [within_f, Option.bind_some]
  by_cases h : 0 ≤ vars ∧ vars ≤ 1000
  · rw [if_pos (by simpa using h), if_neg (show ¬ ¬ (0 ≤ vars ∧ vars ≤ 1000) from fun x => x h)]
    by_cases h2 : (l.length : Int) ≤ 4000
    · rw [if_neg (by omega), if_neg (show ¬ ¬ (l.length : Int) ≤ 4000 from fun x => x h2)]
      have := refCheck_l0 vars h l (by omega) l.length 0 k (by omega) (by omega)
      rw [show ((0 : Nat) : Int) = 0 from rfl, List.drop_zero] at this
      exact this
    · rw [if_pos (by omega), if_pos h2]
  · rw [if_neg (show ¬ decide (0 ≤ vars ∧ vars ≤ 1000) = true by simpa using h), if_pos h]
theorem isTrue_l0 (c m : List Int) (hl : c.length ≤ 1000000) (hm : m.length ≤ 1000000) (hb : ∀ n ∈ m, n = 0 ∨ n = 1) (hc : ∀ n ∈ c, litIn m n ∧ n ≠ 0 ∧ -1000000 ≤ n ∧ n ≤ 1000000) : ∀ (d i k : Nat), i + d = c.length → d < k → ratchetref03_IsTrue.l0 k c m (i : Int) = some ((c.drop i).any (litTrue m)) := by
  intro d
  induction d with
  | zero =>
    intro i k hi hk
    obtain ⟨k, rfl⟩ : ∃ m, k = m + 1 := ⟨k - 1, by omega⟩
    rw [List.drop_of_length_le (by omega)]
    simp only [ratchetref03_IsTrue.l0]
    rw [if_neg (by omega)]
    rfl
  | succ d ih =>
    intro i k hi hk
    obtain ⟨k, rfl⟩ : ∃ m, k = m + 1 := ⟨k - 1, by omega⟩
    have hlt : i < c.length := by omega
    have hmem : rd c (i : Int) ∈ c := by
      have : rd c (i : Int) ∈ c.drop i := by rw [drop_rd hlt]; simp
      exact List.mem_of_mem_drop this
    obtain ⟨⟨h1, h2⟩, h3, h4, h5⟩ := hc _ hmem
    have hnext := ih (i + 1) k (by omega) (by omega)
    rw [drop_rd hlt, List.any_cons]
    simp only [ratchetref03_IsTrue.l0]
    rw [if_pos (by omega), if_pos (by omega), w_succ (by omega)]
    generalize rd c (i : Int) = n at h1 h2 h3 h4 h5
    have hwn : wrap64 (-n) = -n := by unfold wrap64; omega
    have hv : ∀ x : Int, 0 ≤ x → x < m.length → rd m x = 0 ∨ rd m x = 1 := by
      intro x hx0 hx1
      have hx : x.toNat < m.length := by omega
      have : rd m x = m[x.toNat] := by simp [rd, hx]
      rw [this]
      exact hb _ (List.getElem_mem hx)
    generalize (List.drop (i + 1) c).any (litTrue m) = r at hnext ⊢
    unfold litTrue
    rw [hwn] at h1 h2 ⊢
    by_cases hp : n > 0
    · have hd : decide (n > 0) = true := by simpa using hp
      rw [hd]
      have hmx : mx n (-n) = n := by unfold mx; split <;> omega
      rw [hmx] at h1 h2 ⊢
      have hw1 : wrap64 (n - 1) = n - 1 := by unfold wrap64; omega
      rw [if_pos hp, hw1, if_pos h1, if_pos h2]
      rcases hv _ h1 h2 with h | h
      · rw [if_neg (by omega), if_neg (by omega), hnext, h]
        simp
      · rw [if_pos h, h]
        simp
    · have hd : decide (n > 0) = false := by simpa using hp
      rw [hd]
      have hmx : mx n (-n) = -n := by unfold mx; split <;> omega
      rw [hmx] at h1 h2 ⊢
      have hw1 : wrap64 (-n - 1) = -n - 1 := by unfold wrap64; omega
      rw [if_neg hp, if_pos (by omega), hw1, if_pos h1, if_pos h2]
      rcases hv _ h1 h2 with h | h
      · rw [if_pos h, h]
        simp
      · rw [if_neg (by omega), hnext, h]
        simp
theorem isTrue_f (c m : List Int) (hl : c.length ≤ 1000000) (hm : m.length ≤ 1000000) (hb : ∀ n ∈ m, n = 0 ∨ n = 1) (hc : ∀ n ∈ c, litIn m n ∧ n ≠ 0 ∧ -1000000 ≤ n ∧ n ≤ 1000000) (k : Nat) (hk : c.length < k) : ratchetref03_IsTrue.f k c m = some (c.any (litTrue m)) := by
  unfold ratchetref03_IsTrue.f
  have := isTrue_l0 c m hl hm hb hc c.length 0 k (by omega) (by omega)
  rw [show ((0 : Nat) : Int) = 0 from rfl, List.drop_zero] at this
  exact this
theorem false_l0 (a : Int) (l : List (List Int)) (m : List Int) (hl : l.length ≤ 1000000) (hm : m.length ≤ 1000000) (hb : ∀ n ∈ m, n = 0 ∨ n = 1) (hc : ∀ c ∈ l, c.length ≤ 12 ∧ ∀ n ∈ c, litIn m n ∧ n ≠ 0 ∧ -1000000 ≤ n ∧ n ≤ 1000000) :
    ∀ (d i k : Nat) (acc : List Int), i + d = l.length → acc.length ≤ i → d + 12 < k → ratchetref03_False.l0 k m acc (i : Int) a l = some (acc ++ falseFrom m i (l.drop i)) := by
  intro d
  induction d with
  | zero =>
    intro i k acc hi ha hk
    obtain ⟨k, rfl⟩ : ∃ m, k = m + 1 := ⟨k - 1, by omega⟩
    rw [List.drop_of_length_le (by omega)]
    simp only [ratchetref03_False.l0]
    rw [if_neg (by omega)]
    simp [falseFrom]
  | succ d ih =>
    intro i k acc hi ha hk
    obtain ⟨k, rfl⟩ : ∃ m, k = m + 1 := ⟨k - 1, by omega⟩
    have hlt : i < l.length := by omega
    have hmem : rd_L1 l (i : Int) ∈ l := by
      have : rd_L1 l (i : Int) ∈ l.drop i := by rw [drop_rdL hlt]; simp
      exact List.mem_of_mem_drop this
    obtain ⟨h1, h2⟩ := hc _ hmem
    rw [drop_rdL hlt]
    simp only [ratchetref03_False.l0]
    rw [if_pos (by omega), if_pos (by omega), isTrue_f _ m (by omega) hm hb h2 k (by omega), Option.bind_some, w_succ (by omega)]
    generalize rd_L1 l (i : Int) = c
    unfold falseFrom
    by_cases h : c.any (litTrue m) = true
    · rw [if_pos h, if_pos h, ih (i + 1) k acc (by omega) (by omega) (by omega)]
    · rw [if_neg h, if_neg h, if_pos (by omega), ih (i + 1) k (acc ++ [(i : Int)]) (by omega) (by simp; omega) (by omega)]
      simp
theorem false_f (a : Int) (l : List (List Int)) (m : List Int) (hl : l.length ≤ 1000000) (hm : m.length ≤ 1000000) (hb : ∀ n ∈ m, n = 0 ∨ n = 1) (hc : ∀ c ∈ l, c.length ≤ 12 ∧ ∀ n ∈ c, litIn m n ∧ n ≠ 0 ∧ -1000000 ≤ n ∧ n ≤ 1000000) (k : Nat) (hk : l.length + 12 < k) :
    ratchetref03_False.f k a l m = some (falseFrom m 0 l) := by
  unfold ratchetref03_False.f
  have := false_l0 a l m hl hm hb hc l.length 0 k [] (by omega) (by simp) (by omega)
  rw [show ((0 : Nat) : Int) = 0 from rfl, List.drop_zero, List.nil_append] at this
  exact this
end Go.Proofs.Ytapbkoolddnjgaa.Pure
