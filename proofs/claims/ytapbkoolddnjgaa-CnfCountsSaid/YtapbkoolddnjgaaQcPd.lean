/- What the claim needs of Pd: lemmas and contracts, cut by a program to what is used. -/
import Derived.Test.YtapbkoolddnjgaaQcPAx0
import Derived.Test.YtapbkoolddnjgaaQcPAx1
import Derived.Test.YtapbkoolddnjgaaQcPAx14
import Derived.Test.YtapbkoolddnjgaaQcPAx18
import Derived.Test.YtapbkoolddnjgaaQcPAx19
import Derived.Test.YtapbkoolddnjgaaQcPAx2
import Derived.Test.YtapbkoolddnjgaaQcPAx20
import Derived.Test.YtapbkoolddnjgaaQcPc
import Derived.Test.YtapbkoolddnjgaaQcPq
import Derived.Test.YtapbkoolddnjgaaQcPv
set_option linter.unusedVariables false
set_option linter.unusedSimpArgs false
namespace Go.Proofs.Ytapbkoolddnjgaa.Pure
open Go.RowKit Go.Proofs.Ytapbkoolddnjgaa.PA Go.Proofs.YtapbkoolddnjgaaW.PrintWords Go.Proofs.YtapbkoolddnjgaaW.PrintLast Go.Proofs.Sl
theorem few_l0 (a : Int) (l : List (List Int)) (hl : l.length ≤ 24) : ∀ (d i k : Nat), i + d = l.length → d < k → ratchetlaw03_Few.l0 k (i : Int) a l = some (slim (l.drop i)) := by
  intro d
  induction d with
  | zero =>
    intro i k hi hk
    obtain ⟨k, rfl⟩ : ∃ m, k = m + 1 := ⟨k - 1, by omega⟩
    rw [List.drop_of_length_le (by omega)]
    simp only [ratchetlaw03_Few.l0]
    rw [if_neg (by omega)]
    rfl
  | succ d ih =>
    intro i k hi hk
    obtain ⟨k, rfl⟩ : ∃ m, k = m + 1 := ⟨k - 1, by omega⟩
    have hlt : i < l.length := by omega
    rw [drop_rdL hlt]
    simp only [ratchetlaw03_Few.l0]
    rw [if_pos (by omega), if_pos (by omega)]
    generalize rd_L1 l (i : Int) = c
    unfold slim
    rw [List.all_cons]
    by_cases h : c.length ≤ 14
    · rw [if_neg (by omega), w_succ (by omega), ih (i + 1) k (by omega) (by omega)]
      simp [h, slim]
    · rw [if_pos (by omega)]
      simp [h]
theorem few_f (a : Int) (l : List (List Int)) (k : Nat) (hk : 25 < k) : ratchetlaw03_Few.f k a l = some (decide (l.length ≤ 24) && slim l) := by
  unfold ratchetlaw03_Few.f
  by_cases h : l.length ≤ 24
  · rw [if_neg (by omega)]
    have := few_l0 a l h l.length 0 k (by omega) (by omega)
    rw [show ((0 : Nat) : Int) = 0 from rfl] at this
    rw [this]
    simp [h]
  · rw [if_pos (by omega)]
    simp [h]
theorem formulaErr_ref (a : Int) (l : List (List Int)) (k : Nat) (hk : l.length + 12 < k) : ratchetref03_FormulaErr.f k a l = some (checkFormula a l).2 := by
  unfold ratchetref03_FormulaErr.f
  rw [refCheck_f a l k hk]
  rfl
theorem lits_ok {a : Int} {l : List (List Int)} {m : List Int} (hc : (checkFormula a l).2 = 0) (hml : (m.length : Int) = a) : ∀ c ∈ l, c.length ≤ 12 ∧ ∀ n ∈ c, litIn m n ∧ n ≠ 0 ∧ -1000000 ≤ n ∧ n ≤ 1000000 := by
  obtain ⟨hv0, hv1, _, hv2⟩ := checkFormula_ok hc
  intro c hcm
  have h8 := hv2 c hcm
  refine ⟨?_, fun n hn => ?_⟩
  · unfold litErr at h8
    by_cases h12 : (c.length : Int) > 12
    · rw [if_pos h12] at h8; simp at h8
    · omega
  · obtain ⟨h5, h6, h7⟩ := litErr_mem h8 n hn
    have hw : wrap64 (-a) = -a := by unfold wrap64; omega
    rw [hw] at h6
    exact ⟨litIn_ok hc hml hcm hn, h5, by omega, by omega⟩
def bitsM (V n : Nat) : List Int := (List.range V).map (fun i => ((n / 2 ^ i % 2 : Nat) : Int))
theorem bitsM_low {V n : Nat} (h : n < 2 ^ V) : bitsM (V + 1) n = bitsM V n ++ [0] := by
  unfold bitsM
  rw [List.range_succ, List.map_append]
  congr 1
  show [((n / 2 ^ V % 2 : Nat) : Int)] = [0]
  rw [Nat.div_eq_of_lt h]
  rfl
theorem bitsM_high {V n : Nat} (h : n < 2 ^ V) : bitsM (V + 1) (2 ^ V + n) = bitsM V n ++ [1] := by
  unfold bitsM
  rw [List.range_succ, List.map_append]
  congr 1
  · refine List.map_congr_left (fun i hi => ?_)
    have hi := List.mem_range.1 hi
    congr 1
    have hp : 2 ^ V = 2 ^ i * (2 * 2 ^ (V - i - 1)) := by
      rw [← Nat.mul_assoc, ← Nat.pow_succ, ← Nat.pow_add]
      congr 1; omega
    rw [hp, Nat.mul_add_div (Nat.two_pow_pos i), Nat.mul_add_mod]
  · have : (2 ^ V + n) / 2 ^ V = 1 := by
      rw [Nat.add_div_left _ (Nat.two_pow_pos V), Nat.div_eq_of_lt h]
    show [(((2 ^ V + n) / 2 ^ V % 2 : Nat) : Int)] = [1]
    rw [this]
    rfl
theorem allM_bits : ∀ V : Nat, allM V = (List.range (2 ^ V)).map (bitsM V)
  | 0 => rfl
  | V + 1 => by
    have hs : 2 ^ (V + 1) = 2 ^ V + 2 ^ V := by rw [Nat.pow_succ]; omega
    rw [allM, allM_bits V, hs, List.range_add, List.map_append, List.map_map, List.map_map, List.map_map]
    congr 1
    · exact List.map_congr_left (fun n hn => (bitsM_low (List.mem_range.1 hn)).symm)
    · exact List.map_congr_left (fun n hn => (bitsM_high (List.mem_range.1 hn)).symm)
theorem power_small : ∀ j : Nat, j ≤ 16 → ratchetbase_Power.f (j : Int) = some ((2 ^ j : Nat) : Int) := by decide +kernel
def bitsTo (V n j : Nat) : List Int := (List.range V).map (fun i => if i < j then ((n / 2 ^ i % 2 : Nat) : Int) else 0)
theorem bitsTo_zero (V n : Nat) : bitsTo V n 0 = List.replicate V 0 := by
  unfold bitsTo
  apply List.ext_getElem
  · simp
  · intro i h1 h2; simp
theorem bitsTo_full (V n : Nat) : bitsTo V n V = bitsM V n := by
  unfold bitsTo bitsM
  exact List.map_congr_left (fun i hi => by rw [if_pos (List.mem_range.1 hi)])
theorem bitsTo_len (V n j : Nat) : (bitsTo V n j).length = V := by unfold bitsTo; simp
theorem bitsTo_get {V n j i : Nat} (h : i < (bitsTo V n j).length) : (bitsTo V n j)[i] = if i < j then ((n / 2 ^ i % 2 : Nat) : Int) else 0 := by simp [bitsTo]
theorem bitsTo_set (V n j : Nat) (h : j < V) : (bitsTo V n j).set j ((n / 2 ^ j % 2 : Nat) : Int) = bitsTo V n (j + 1) := by
  apply List.ext_getElem
  · simp [bitsTo]
  · intro i h1 h2
    rw [List.getElem_set, bitsTo_get h2]
    by_cases e : j = i
    · subst e; rw [if_pos rfl, if_pos (by omega)]
    · rw [if_neg e, bitsTo_get]
      by_cases g : i < j
      · rw [if_pos g, if_pos (by omega)]
      · rw [if_neg g, if_neg (by omega)]
theorem count_l1 {V : Nat} (hV : V ≤ 9) (l : List (List Int)) (acc n : Nat) (hn : n < 2 ^ V) : ∀ (d j k : Nat), j + d = V → ratchetref03_Count.l1 (k + d + 1) (acc : Int) (n : Int) (bitsTo V n j) (j : Int) (V : Int) l = ratchetref03_Count.l1 (k + 1) (acc : Int) (n : Int) (bitsM V n) (V : Int) (V : Int) l := by
  intro d
  induction d with
  | zero =>
    intro j k hj
    obtain rfl : j = V := by omega
    rw [bitsTo_full]
  | succ d ih =>
    intro j k hj
    rw [← ih (j + 1) k (by omega)]
    conv => lhs; rw [show k + (d + 1) + 1 = (k + d + 1) + 1 by omega]
    rw [ratchetref03_Count.l1]
    have hn9 : n < 2 ^ 9 := Nat.lt_of_lt_of_le hn (Nat.pow_le_pow_right (by omega) hV)
    have hp : (1 : Nat) ≤ 2 ^ j := Nat.one_le_two_pow
    have hq : n / 2 ^ j ≤ n := Nat.div_le_self _ _
    rw [if_pos (by omega), power_small j (by omega), Option.bind_some, if_neg (by omega), if_pos (by omega), if_pos (by rw [bitsTo_len]; omega), w_succ (by omega)]
    have e1 : wrap64 (Int.tdiv (n : Int) ((2 ^ j : Nat) : Int)) = ((n / 2 ^ j : Nat) : Int) := by
      rw [Int.tdiv_eq_ediv_of_nonneg (by omega), ← Int.natCast_ediv]
      generalize n / 2 ^ j = q at hq ⊢
      unfold wrap64
      omega
    have e2 : Int.tmod ((n / 2 ^ j : Nat) : Int) 2 = ((n / 2 ^ j % 2 : Nat) : Int) := by
      rw [Int.tmod_eq_emod_of_nonneg (Int.natCast_nonneg _)]
      omega
    rw [e1, e2, Int.toNat_natCast, bitsTo_set V n j (by omega)]
theorem count_l0 {V : Nat} (hV : V ≤ 9) {l : List (List Int)} (hl : l.length ≤ 24) (hc : (checkFormula (V : Int) l).2 = 0) : ∀ (d n k acc : Nat), n + d = 2 ^ V → acc ≤ n → d * 12 + 50 ≤ k → ratchetref03_Count.l0 k (acc : Int) (n : Int) (V : Int) l = some (((acc + ((allM V).drop n).countP (satM l) : Nat)) : Int) := by
  have h29 : 2 ^ V ≤ 512 := Nat.le_trans (Nat.pow_le_pow_right (by omega) hV) (by decide)
  intro d
  induction d with
  | zero =>
    intro n k acc hn ha hk
    obtain ⟨k, rfl⟩ : ∃ m, k = m + 1 := ⟨k - 1, by omega⟩
    rw [ratchetref03_Count.l0, power_small V (by omega), Option.bind_some, if_neg (by omega)]
    rw [List.drop_of_length_le (by rw [allM_bits]; simp; omega)]
    simp
  | succ d ih =>
    intro n k acc hn ha hk
    obtain ⟨k, rfl⟩ : ∃ m, k = m + V + 1 + 1 := ⟨k - V - 2, by omega⟩
    have hlt : n < 2 ^ V := by omega
    rw [ratchetref03_Count.l0, power_small V (by omega), Option.bind_some, if_pos (by omega), if_pos (by omega), if_pos (by omega), Int.toNat_natCast, ← bitsTo_zero V n]
    have := count_l1 hV l acc n hlt V 0 k (by omega)
    rw [show ((0 : Nat) : Int) = 0 from rfl] at this
    rw [this, ratchetref03_Count.l1, if_neg (by omega)]
    have hlen : (bitsM V n).length = V := by simp [bitsM]
    have hmem : bitsM V n ∈ allM V := by rw [allM_bits]; exact List.mem_map.2 ⟨n, List.mem_range.2 hlt, rfl⟩
    rw [false_f (V : Int) l (bitsM V n) (by omega) (by omega) (allM_bit hmem) (lits_ok hc (by rw [hlen])) _ (by omega), Option.bind_some]
    have hd : (allM V).drop n = bitsM V n :: (allM V).drop (n + 1) := by
      have hl2 : n < (allM V).length := by rw [allM_bits]; simpa using hlt
      rw [List.drop_eq_getElem_cons hl2]
      congr 1
      have : (allM V)[n] = ((List.range (2 ^ V)).map (bitsM V))[n]'(by simpa using hlt) := by congr 1; exact allM_bits V
      rw [this]; simp
    rw [hd, List.countP_cons]
    have hiff := falseFrom_nil (bitsM V n) l 0
    by_cases hs : satM l (bitsM V n) = true
    · rw [if_pos (by have := hiff.2 hs; omega), w_succ (i := acc) (by omega), w_succ (i := n) (by omega), ih (n + 1) k (acc + 1) (by omega) (by omega) (by omega), if_pos hs]
      congr 2; omega
    · rw [if_neg (by intro h; exact hs (hiff.1 (by omega))), w_succ (i := n) (by omega), ih (n + 1) k acc (by omega) (by omega) (by omega), if_neg hs]
      congr 2
theorem count_f {V : Int} (h0 : 0 ≤ V) (h9 : V ≤ 9) {l : List (List Int)} (hl : l.length ≤ 24) (hc : (checkFormula V l).2 = 0) (k : Nat) (hk : 7000 ≤ k) : ratchetref03_Count.f k V l = some ((num V.toNat l [] : Nat) : Int) := by
  obtain ⟨v, rfl⟩ : ∃ v : Nat, V = v := ⟨V.toNat, by omega⟩
  unfold ratchetref03_Count.f
  have h29 : 2 ^ v ≤ 512 := Nat.le_trans (Nat.pow_le_pow_right (by omega) (by omega : v ≤ 9)) (by decide)
  have := count_l0 (V := v) (by omega) hl hc (2 ^ v) 0 k 0 (by omega) (by omega) (by omega)
  rw [show ((0 : Nat) : Int) = 0 from rfl, List.drop_zero] at this
  rw [this, Int.toNat_natCast, Nat.zero_add]
  congr 2
  unfold num cnt
  exact List.countP_congr (fun m _ => by simp [hasM])
theorem has_l0 (l : List Int) (n : Int) (hl : l.length ≤ 1000000) : ∀ (d i k : Nat), i + d = l.length → d < k → ratchetbase_Has.l0 k l n (i : Int) = some ((l.drop i).contains n) := by
  intro d
  induction d with
  | zero =>
    intro i k hi hk
    obtain ⟨k, rfl⟩ : ∃ m, k = m + 1 := ⟨k - 1, by omega⟩
    rw [List.drop_of_length_le (by omega)]
    simp only [ratchetbase_Has.l0]
    rw [if_neg (by omega)]
    rfl
  | succ d ih =>
    intro i k hi hk
    obtain ⟨k, rfl⟩ : ∃ m, k = m + 1 := ⟨k - 1, by omega⟩
    have hlt : i < l.length := by omega
    rw [drop_rd hlt]
    simp only [ratchetbase_Has.l0]
    rw [if_pos (by omega), if_pos (by omega), w_succ (by omega), ih (i + 1) k (by omega) (by omega), List.contains_cons]
    by_cases h : rd l (i : Int) = n
    · rw [if_pos h, h]; simp
    · rw [if_neg h, show (n == rd l (i : Int)) = false from by simpa using fun e : n = rd l (i : Int) => h e.symm, Bool.false_or]
theorem hasRef_f (l : List Int) (n : Int) (hl : l.length ≤ 1000000) (k : Nat) (hk : l.length < k) : ratchetbase_Has.f k l n = some (l.contains n) := by
  unfold ratchetbase_Has.f
  have := has_l0 l n hl l.length 0 k (by omega) (by omega)
  rw [show ((0 : Nat) : Int) = 0 from rfl, List.drop_zero] at this
  exact this
theorem rdL_of {l : List (List Int)} {i : Nat} (h : i < l.length) : rd_L1 l (i : Int) = l[i] := by simp [rd_L1, h]
theorem under_l1 (n V W : Int) (l : List (List Int)) (hl : l.length ≤ 24) (i : Nat) (hi : i < l.length) (hs : l[i].length ≤ 14) : ∀ (d j k : Nat) (acc : List Int) (out : List (List Int)), j + d = l[i].length → acc.length ≤ j → out.length ≤ i →
    ratchetref03_Under.l1 (k + d + 1) n (i : Int) acc (j : Int) V l W out = ratchetref03_Under.l0 k n ((i + 1 : Nat) : Int) V l W (out ++ [acc ++ (l[i].drop j).filter (fun x => !opp n x)]) := by
  intro d
  induction d with
  | zero =>
    intro j k acc out hj ha ho
    rw [ratchetref03_Under.l1, if_pos (by omega), if_pos (by omega), rdL_of hi, if_neg (by omega), if_pos (by omega), w_succ (by omega), List.drop_of_length_le (by omega)]
    simp
  | succ d ih =>
    intro j k acc out hj ha ho
    have hlt : j < l[i].length := by omega
    rw [show k + (d + 1) + 1 = (k + d + 1) + 1 by omega, ratchetref03_Under.l1, if_pos (by omega), if_pos (by omega), rdL_of hi, if_pos (by omega), if_pos (by omega), w_succ (by omega), drop_rd hlt, List.filter_cons]
    by_cases h : rd l[i] (j : Int) = wrap64 (-n)
    · rw [if_pos h, ih (j + 1) k acc out (by omega) (by omega) ho]
      have : opp n (rd l[i] (j : Int)) = true := by unfold opp; simpa using h
      rw [this]; simp
    · rw [if_neg h, if_pos (by omega), ih (j + 1) k (acc ++ [rd l[i] (j : Int)]) out (by omega) (by simp; omega) ho]
      have : opp n (rd l[i] (j : Int)) = false := by unfold opp; simpa using h
      rw [this]; simp
theorem under_l0 (n V W : Int) (l : List (List Int)) (hl : l.length ≤ 24) (hs : ∀ c ∈ l, c.length ≤ 14) : ∀ (d i k : Nat) (out : List (List Int)), i + d = l.length → out.length ≤ i → d * 16 + 20 ≤ k → ratchetref03_Under.l0 k n (i : Int) V l W out = some (W, out ++ underL n (l.drop i)) := by
  intro d
  induction d with
  | zero =>
    intro i k out hi ho hk
    obtain ⟨k, rfl⟩ : ∃ m, k = m + 1 := ⟨k - 1, by omega⟩
    rw [ratchetref03_Under.l0, if_neg (by omega), List.drop_of_length_le (by omega)]
    simp [underL]
  | succ d ih =>
    intro i k out hi ho hk
    have hlt : i < l.length := by omega
    have hci := hs _ (List.getElem_mem hlt)
    obtain ⟨k, rfl⟩ : ∃ m, k = m + l[i].length + 1 + 1 := ⟨k - l[i].length - 2, by omega⟩
    rw [ratchetref03_Under.l0, if_pos (by omega), if_pos (by omega), rdL_of hlt, hasRef_f _ _ (by omega) _ (by omega), Option.bind_some, drop_rdL hlt, rdL_of hlt]
    unfold underL
    by_cases h : l[i].contains n = true
    · rw [if_pos h, if_pos h, w_succ (by omega), ih (i + 1) _ out (by omega) (by omega) (by omega)]
    · rw [if_neg h, if_neg h]
      have := under_l1 n V W l hl i hlt hci l[i].length 0 k [] out (by omega) (by simp) ho
      rw [show ((0 : Nat) : Int) = 0 from rfl] at this
      rw [this, ih (i + 1) k _ (by omega) (by simp; omega) (by omega)]
      simp
theorem under_f (V n : Int) (l : List (List Int)) (hl : l.length ≤ 24) (hs : ∀ c ∈ l, c.length ≤ 14) (k : Nat) (hk : 500 ≤ k) : ratchetref03_Under.f k V l n = some (V, underL n l) := by
  unfold ratchetref03_Under.f
  have := under_l0 n V V l hl hs l.length 0 k [] (by omega) (by simp) (by omega)
  rw [show ((0 : Nat) : Int) = 0 from rfl, List.drop_zero, List.nil_append] at this
  exact this
theorem lists_l0 (l : List (List Int)) (hl : l.length ≤ 1000) (hs : ∀ c ∈ l, c.length ≤ 14) : ∀ (d i k : Nat), i + d = l.length → d + 14 < k → ratchetbase_Lists.l0 k l l (i : Int) = some true := by
  intro d
  induction d with
  | zero =>
    intro i k hi hk
    obtain ⟨k, rfl⟩ : ∃ m, k = m + 1 := ⟨k - 1, by omega⟩
    rw [ratchetbase_Lists.l0, if_neg (by omega)]
  | succ d ih =>
    intro i k hi hk
    obtain ⟨k, rfl⟩ : ∃ m, k = m + 1 := ⟨k - 1, by omega⟩
    have hlt : i < l.length := by omega
    have hci := hs _ (List.getElem_mem hlt)
    rw [ratchetbase_Lists.l0, if_pos (by omega), if_pos (by omega), if_pos (by omega), rdL_of hlt, ints_same _ (by omega) _ (by omega), Option.bind_some, if_pos rfl, w_succ (by omega)]
    exact ih (i + 1) k (by omega) (by omega)
theorem same_f (V : Int) (l : List (List Int)) (hl : l.length ≤ 1000) (hs : ∀ c ∈ l, c.length ≤ 14) (k : Nat) (hk : l.length + 14 < k) : ratchetref03_Same.f k V l V l = some true := by
  unfold ratchetref03_Same.f ratchetbase_Lists.f
  rw [if_pos rfl, if_pos rfl]
  have := lists_l0 l hl hs l.length 0 k (by omega) (by omega)
  rw [show ((0 : Nat) : Int) = 0 from rfl] at this
  rw [this]
  rfl
theorem underL_len (n : Int) : ∀ l : List (List Int), (underL n l).length ≤ l.length
  | [] => by simp [underL]
  | c :: l => by
    unfold underL
    have := underL_len n l
    split <;> simp <;> omega
theorem underL_mem {n : Int} : ∀ {l : List (List Int)} {c : List Int}, c ∈ underL n l → ∃ d ∈ l, c = d.filter (fun x => !opp n x)
  | d :: l, c, h => by
    unfold underL at h
    split at h
    · obtain ⟨e, he, rfl⟩ := underL_mem h
      exact ⟨e, List.mem_cons_of_mem _ he, rfl⟩
    · rcases List.mem_cons.1 h with rfl | h
      · exact ⟨d, List.mem_cons_self .., rfl⟩
      · obtain ⟨e, he, rfl⟩ := underL_mem h
        exact ⟨e, List.mem_cons_of_mem _ he, rfl⟩
theorem litRun_filter (vars : Int) (p : Int → Bool) : ∀ (c : List Int) (b b' : Int) (i j : Nat), b' ≤ b → (eachRun (fun b (_ : Nat) n => litStep vars b n) b i c).1.2 = 0 → (eachRun (fun b (_ : Nat) n => litStep vars b n) b' j (c.filter p)).1.2 = 0
  | [], b, b', i, j, hb, h => by simp [eachRun]
  | n :: c, b, b', i, j, hb, h => by
    rw [eachRun_cons] at h
    by_cases hs : (litStep vars b n).1 = 0
    · rw [if_pos hs] at h
      have hst : (litStep vars b n).1 = 0 → n ≠ 0 ∧ (wrap64 (-vars) ≤ n ∧ n ≤ vars) ∧ mx n (wrap64 (-n)) > b := by
        unfold litStep
        intro h
        by_cases h0 : n = 0
        · rw [if_pos h0] at h; simp at h
        · rw [if_neg h0] at h
          by_cases h1 : wrap64 (-vars) ≤ n ∧ n ≤ vars
          · rw [if_pos h1] at h
            by_cases h2 : mx n (wrap64 (-n)) > b
            · exact ⟨h0, h1, h2⟩
            · dsimp only at h; rw [if_neg h2] at h; simp at h
          · rw [if_neg h1] at h; simp at h
      obtain ⟨g0, g1, g2⟩ := hst hs
      have hsnd : (litStep vars b n).2 = mx n (wrap64 (-n)) := by unfold litStep; rw [if_neg g0, if_pos g1]
      rw [hsnd] at h
      rw [List.filter_cons]
      by_cases hp : p n = true
      · rw [if_pos hp, eachRun_cons]
        have e1 : litStep vars b' n = (0, mx n (wrap64 (-n))) := by unfold litStep; rw [if_neg g0, if_pos g1, if_pos (by omega)]
        rw [e1]
        dsimp only
        rw [if_pos rfl]
        exact litRun_filter vars p c _ _ _ _ (Int.le_refl _) h
      · rw [if_neg hp]
        exact litRun_filter vars p c _ b' _ j (by omega) h
    · rw [if_neg hs] at h
      exact absurd h hs
theorem litErr_filter {vars : Int} {c : List Int} (p : Int → Bool) (h : litErr vars c 12 = 0) : litErr vars (c.filter p) 12 = 0 := by
  unfold litErr at h ⊢
  have hl := List.length_filter_le p c
  by_cases h1 : (c.length : Int) > 12
  · rw [if_pos h1] at h; simp at h
  · rw [if_neg h1] at h
    rw [if_neg (by omega)]
    exact litRun_filter vars p c 0 0 0 0 (Int.le_refl _) h
theorem eachU_all {α : Type} (f : α → Int) : ∀ (l : List α) (i : Nat), (∀ c ∈ l, f c = 0) → (eachRun (fun (_ : Unit) (_ : Nat) c => (f c, ())) () i l).1 = (0, 0)
  | [], _, _ => rfl
  | x :: l, i, h => by
    rw [eachRun_cons, if_pos (h x (List.mem_cons_self ..))]
    exact eachU_all f l (i + 1) (fun c hc => h c (List.mem_cons_of_mem _ hc))
theorem check_under {V n : Int} {l : List (List Int)} (h : (checkFormula V l).2 = 0) : (checkFormula V (underL n l)).2 = 0 := by
  obtain ⟨h1, h2, h3, h4⟩ := checkFormula_ok h
  have hl := underL_len n l
  unfold checkFormula
  rw [if_neg (fun g => g ⟨h1, h2⟩), if_neg (fun g => g (by omega))]
  rw [eachU_all _ _ 0 (fun c hc => by
    obtain ⟨d, hd, rfl⟩ := underL_mem hc
    exact litErr_filter _ (h4 d hd))]
theorem flip_mem : ∀ {V i : Nat} {m : List Int}, m ∈ allM V → i < V → flip i m ∈ allM V
  | V + 1, i, m, hm, hi => by
    unfold allM at hm ⊢
    rcases List.mem_append.1 hm with hm | hm
    · obtain ⟨x, hx, rfl⟩ := List.mem_map.1 hm
      have hl := allM_len hx
      by_cases e : i = V
      · have : flip i (x ++ [0]) = x ++ [1] := by
          unfold flip
          rw [List.set_append_right _ _ (by omega), List.getD_eq_getElem?_getD, List.getElem?_append_right (by omega)]
          simp [hl, e]
        rw [this]
        exact List.mem_append_right _ (List.mem_map.2 ⟨x, hx, rfl⟩)
      · rw [flip_append (by omega)]
        exact List.mem_append_left _ (List.mem_map.2 ⟨_, flip_mem hx (by omega), rfl⟩)
    · obtain ⟨x, hx, rfl⟩ := List.mem_map.1 hm
      have hl := allM_len hx
      by_cases e : i = V
      · have : flip i (x ++ [1]) = x ++ [0] := by
          unfold flip
          rw [List.set_append_right _ _ (by omega), List.getD_eq_getElem?_getD, List.getElem?_append_right (by omega)]
          simp [hl, e]
        rw [this]
        exact List.mem_append_left _ (List.mem_map.2 ⟨x, hx, rfl⟩)
      · rw [flip_append (by omega)]
        exact List.mem_append_right _ (List.mem_map.2 ⟨_, flip_mem hx (by omega), rfl⟩)
theorem flip_pos {V i j : Nat} {m : List Int} (hm : m ∈ allM V) (hV : V ≤ 1000) (hi : i < V) (hj : j < V) : litTrue (flip i m) ((j + 1 : Nat) : Int) = if i = j then !(litTrue m ((j + 1 : Nat) : Int)) else litTrue m ((j + 1 : Nat) : Int) := by
  have hl := allM_len hm
  have hl2 := allM_len (flip_mem hm hi)
  rw [litTrue_pos (by omega) (by omega), litTrue_pos (by omega) (by omega)]
  have hg : (flip i m)[j]'(by omega) = if i = j then 1 - m[i]'(by omega) else m[j]'(by omega) := by
    unfold flip
    rw [List.getElem_set]
    by_cases e : i = j
    · rw [if_pos e, if_pos e, List.getD_eq_getElem?_getD, List.getElem?_eq_getElem (by omega)]; rfl
    · rw [if_neg e, if_neg e]
  rw [hg]
  by_cases e : i = j
  · subst e
    rw [if_pos rfl, if_pos rfl]
    rcases allM_bit hm _ (List.getElem_mem (by omega : i < m.length)) with h | h <;> rw [h] <;> rfl
  · rw [if_neg e, if_neg e]
theorem flip_lit {V i : Nat} {m : List Int} (hm : m ∈ allM V) (hV : V ≤ 1000) (hi : i < V) {x : Int} (h0 : x ≠ 0) (h1 : -(V : Int) ≤ x) (h2 : x ≤ V) : litTrue (flip i m) x = if x.natAbs = i + 1 then !(litTrue m x) else litTrue m x := by
  by_cases hp : 0 < x
  · obtain ⟨j, rfl⟩ : ∃ j : Nat, x = ((j + 1 : Nat) : Int) := ⟨(x - 1).toNat, by omega⟩
    rw [flip_pos hm hV hi (by omega)]
    by_cases e : i = j
    · rw [if_pos e, if_pos (by omega)]
    · rw [if_neg e, if_neg (by omega)]
  · obtain ⟨j, rfl⟩ : ∃ j : Nat, x = -((j + 1 : Nat) : Int) := ⟨(-x - 1).toNat, by omega⟩
    rw [litTrue_neg (flip_mem hm hi) (by omega) (by omega) (by omega) hV, litTrue_neg hm (by omega) (by omega) (by omega) hV, flip_pos hm hV hi (by omega)]
    by_cases e : i = j
    · rw [if_pos e, if_pos (by omega)]
    · rw [if_neg e, if_neg (by omega)]
def made (n : Int) (m : List Int) : List Int := if litTrue m n = true then m else flip (n.natAbs - 1) m
theorem made_lit {V : Nat} {n : Int} (hV : V ≤ 1000) (n0 : n ≠ 0) (n1 : -(V : Int) ≤ n) (n2 : n ≤ V) {m : List Int} (hm : m ∈ allM V) {x : Int} (h0 : x ≠ 0) (h1 : -(V : Int) ≤ x) (h2 : x ≤ V) : litTrue (made n m) x = if x = n then true else if x = -n then false else litTrue m x := by
  have hneg := litTrue_neg hm n0 n1 n2 hV
  unfold made
  by_cases ht : litTrue m n = true
  · rw [if_pos ht]
    by_cases e1 : x = n
    · rw [if_pos e1, e1]; exact ht
    · rw [if_neg e1]
      by_cases e2 : x = -n
      · rw [if_pos e2, e2, hneg, ht]; rfl
      · rw [if_neg e2]
  · rw [if_neg ht]
    have hf : litTrue m n = false := by simpa using ht
    rw [flip_lit hm hV (by omega) h0 h1 h2]
    by_cases e1 : x = n
    · rw [if_pos e1, e1, if_pos (by omega), hf]; rfl
    · rw [if_neg e1]
      by_cases e2 : x = -n
      · rw [if_pos e2, e2, if_pos (by omega), hneg, hf]; rfl
      · rw [if_neg e2, if_neg (by omega)]
theorem sat_under {V : Nat} {n : Int} (hV : V ≤ 1000) (n0 : n ≠ 0) (n1 : -(V : Int) ≤ n) (n2 : n ≤ V) {m : List Int} (hm : m ∈ allM V) : ∀ {l : List (List Int)}, (∀ c ∈ l, ∀ x ∈ c, x ≠ 0 ∧ -(V : Int) ≤ x ∧ x ≤ V) → satM (underL n l) m = satM l (made n m)
  | [], _ => rfl
  | c :: l, hl => by
    have ih := sat_under hV n0 n1 n2 hm (l := l) (fun d hd => hl d (List.mem_cons_of_mem _ hd))
    have hc := hl c (List.mem_cons_self ..)
    have hw : wrap64 (-n) = -n := by unfold wrap64; omega
    unfold underL
    by_cases h : c.contains n = true
    · rw [if_pos h]
      have hn : n ∈ c := by simpa using h
      have : c.any (litTrue (made n m)) = true := List.any_eq_true.2 ⟨n, hn, by rw [made_lit hV n0 n1 n2 hm n0 n1 n2, if_pos rfl]⟩
      show _ = (c :: l).all (fun c => c.any (litTrue (made n m)))
      rw [List.all_cons, this, Bool.true_and]
      exact ih
    · rw [if_neg h]
      have hn : n ∉ c := by simpa using h
      have : (c.filter (fun x => !opp n x)).any (litTrue m) = c.any (litTrue (made n m)) := by
        rw [List.any_filter, Bool.eq_iff_iff, List.any_eq_true, List.any_eq_true]
        refine exists_congr (fun x => and_congr_right (fun hx => ?_))
        obtain ⟨g0, g1, g2⟩ := hc x hx
        rw [made_lit hV n0 n1 n2 hm g0 g1 g2, if_neg (show ¬ x = n from fun e => hn (e ▸ hx))]
        unfold opp
        rw [hw]
        by_cases e : x = -n <;> simp [e]
      show ((c.filter (fun x => !opp n x)) :: underL n l).all (fun c => c.any (litTrue m)) = (c :: l).all (fun c => c.any (litTrue (made n m)))
      rw [List.all_cons, List.all_cons, this]
      congr 1
theorem num_under {V : Nat} {n : Int} (hV : V ≤ 1000) (n0 : n ≠ 0) (n1 : -(V : Int) ≤ n) (n2 : n ≤ V) {l : List (List Int)} (hl : ∀ c ∈ l, ∀ x ∈ c, x ≠ 0 ∧ -(V : Int) ≤ x ∧ x ≤ V) : num V (underL n l) [] = 2 * cnt V (fun m => satM l m && litTrue m n) := by
  have e0 : num V (underL n l) [] = cnt V (fun m => satM l (made n m)) := cnt_congr (fun m hm => by
    rw [sat_under hV n0 n1 n2 hm hl]
    simp [hasM])
  rw [e0, cnt_split V _ (fun m => litTrue m n)]
  have e1 : cnt V (fun m => satM l (made n m) && litTrue m n) = cnt V (fun m => satM l m && litTrue m n) := cnt_congr (fun m hm => by
    unfold made
    cases h : litTrue m n with
    | true => rw [if_pos rfl]
    | false => simp)
  have e2 : cnt V (fun m => satM l (made n m) && !(litTrue m n)) = cnt V (fun m => satM l m && litTrue m n) := by
    rw [← cnt_flip (n := V) (i := n.natAbs - 1) (fun m => satM l m && litTrue m n) (by omega)]
    refine cnt_congr (fun m hm => ?_)
    rw [flip_lit hm hV (by omega) n0 n1 n2, if_pos (by omega)]
    unfold made
    cases h : litTrue m n with
    | true => simp
    | false => rw [if_neg (by simp)]
  rw [e1, e2]; omega
theorem num_halves {V : Nat} {n : Int} (hV : V ≤ 1000) (n0 : n ≠ 0) (n1 : -(V : Int) ≤ n) (n2 : n ≤ V) {l : List (List Int)} (hl : ∀ c ∈ l, ∀ x ∈ c, x ≠ 0 ∧ -(V : Int) ≤ x ∧ x ≤ V) : num V (underL n l) [] + num V (underL (-n) l) [] = 2 * num V l [] := by
  rw [num_under hV n0 n1 n2 hl, num_under (n := -n) hV (by omega) (by omega) (by omega) hl]
  have e0 : num V l [] = cnt V (satM l) := cnt_congr (fun m _ => by simp [hasM])
  rw [e0, cnt_split V (satM l) (fun m => litTrue m n)]
  have : cnt V (fun m => satM l m && litTrue m (-n)) = cnt V (fun m => satM l m && !(litTrue m n)) := cnt_congr (fun m hm => by rw [litTrue_neg hm n0 n1 n2 hV])
  rw [this]; omega
end Go.Proofs.Ytapbkoolddnjgaa.Pure
