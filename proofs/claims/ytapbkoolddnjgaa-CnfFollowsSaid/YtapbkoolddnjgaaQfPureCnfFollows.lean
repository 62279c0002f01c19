/- What the claim needs of PureCnfFollows: lemmas and contracts, cut by a program to what is used. -/
import Derived.Test.YtapbkoolddnjgaaQfPAx1
import Derived.Test.YtapbkoolddnjgaaQfPAx10
import Derived.Test.YtapbkoolddnjgaaQfPAx13
import Derived.Test.YtapbkoolddnjgaaQfPAx14
import Derived.Test.YtapbkoolddnjgaaQfPAx2
import Derived.Test.YtapbkoolddnjgaaQfPAx22
import Derived.Test.YtapbkoolddnjgaaQfPAx24
import Derived.Test.YtapbkoolddnjgaaQfPAx25
import Derived.Test.YtapbkoolddnjgaaQfPAx26
import Derived.Test.YtapbkoolddnjgaaQfPAx3
import Derived.Test.YtapbkoolddnjgaaQfPAx5
import Derived.Test.YtapbkoolddnjgaaQfPAx7
import Derived.Test.YtapbkoolddnjgaaQfPc
import Derived.Test.YtapbkoolddnjgaaQfPd
import Derived.Test.YtapbkoolddnjgaaQfPf
import Derived.Test.YtapbkoolddnjgaaQfPq
import Derived.Test.YtapbkoolddnjgaaQfPv
set_option linter.unusedVariables false
namespace Go.Proofs.Ytapbkoolddnjgaa.Pure
open Go.RowKit Go.Proofs.Ytapbkoolddnjgaa.PA Go.Proofs.YtapbkoolddnjgaaW.PrintWords Go.Proofs.YtapbkoolddnjgaaW.PrintLast Go.Proofs.Sl
theorem litRun_nodup (vars : Int) : ∀ (c : List Int) (b : Int) (i : Nat), (eachRun (fun b (_ : Nat) n => litStep vars b n) b i c).1.2 = 0 → c.Nodup ∧ ∀ n ∈ c, mx n (wrap64 (-n)) > b
  | [], b, i, h => ⟨List.nodup_nil, by simp⟩
  | n :: c, b, i, h => by
    rw [eachRun_cons] at h
    by_cases hs : (litStep vars b n).1 = 0
    · rw [if_pos hs] at h
      have hst : (litStep vars b n).1 = 0 → n ≠ 0 ∧ (wrap64 (-vars) ≤ n ∧ n ≤ vars) ∧ mx n (wrap64 (-n)) > b := by
        unfold litStep
        intro h
        by_cases h0 : n = 0
        · rw [if_pos h0] at h; simp at h
        · rw [if_neg h0] at h
          by_cases h1 : wrap64 (-vars) ≤ n ∧ n ≤ vars
          · rw [if_pos h1] at h
            by_cases h2 : mx n (wrap64 (-n)) > b
            · exact ⟨h0, h1, h2⟩
            · dsimp only at h; rw [if_neg h2] at h; simp at h
          · rw [if_neg h1] at h; simp at h
      obtain ⟨g0, g1, g2⟩ := hst hs
      have hsnd : (litStep vars b n).2 = mx n (wrap64 (-n)) := by unfold litStep; rw [if_neg g0, if_pos g1]
      rw [hsnd] at h
      obtain ⟨k1, k2⟩ := litRun_nodup vars c _ _ h
      refine ⟨List.nodup_cons.2 ⟨fun hn => ?_, k1⟩, fun m hm => ?_⟩
      · have := k2 n hn; omega
      · rcases List.mem_cons.1 hm with rfl | hm
        · exact g2
        · have := k2 m hm; omega
    · rw [if_neg hs] at h
      exact absurd h hs
theorem litErr_nodup {vars : Int} {c : List Int} (h : litErr vars c 12 = 0) : c.Nodup := by
  unfold litErr at h
  by_cases h1 : (c.length : Int) > 12
  · rw [if_pos h1] at h; simp at h
  · rw [if_neg h1] at h
    exact (litRun_nodup vars c 0 0 h).1
theorem check_one {V : Int} {C : List Int} (h1 : 0 ≤ V ∧ V ≤ 1000) (h : litErr V C 12 = 0) : (checkFormula V [C]).2 = 0 := by
  unfold checkFormula
  rw [if_neg (fun g => g h1), if_neg (fun g => g (by simp))]
  rw [eachU_all _ _ 0 (fun c hc => by rw [List.mem_singleton.1 hc]; exact h)]
theorem fuelErr_ref (a : Int) : ratchetref03_FuelErr.f a = some (if 0 ≤ a ∧ a ≤ 20000 then 0 else 2) := by
  unfold ratchetref03_FuelErr.f
  rw [within_f, Option.bind_some]
  by_cases h : 0 ≤ a ∧ a ≤ 20000
  · rw [if_pos (by simpa using h), if_pos h]
  · rw [if_neg (by simpa using h), if_neg h]
theorem against_l0 {V : Int} {C : List Int} (hC : C.length ≤ 1000) : ∀ (d i k : Nat) (acc : List (List Int)), i + d = C.length → acc.length ≤ 1000000 + i → d < k → ratchetref03_Against.l0 k C (i : Int) V acc = some (V, acc ++ (C.drop i).map (fun n => [wrap64 (-n)])) := by
  intro d
  induction d with
  | zero =>
    intro i k acc hi ha hk
    obtain ⟨k, rfl⟩ : ∃ m, k = m + 1 := ⟨k - 1, by omega⟩
    rw [List.drop_of_length_le (by omega), ratchetref03_Against.l0, if_neg (by omega)]
    simp
  | succ d ih =>
    intro i k acc hi ha hk
    obtain ⟨k, rfl⟩ : ∃ m, k = m + 1 := ⟨k - 1, by omega⟩
    have hlt : i < C.length := by omega
    rw [ratchetref03_Against.l0, if_pos (by omega), if_pos (by omega), if_pos (by omega), w_succ (by omega), ih (i + 1) k _ (by omega) (by rw [List.length_append, List.length_singleton]; omega) (by omega), drop_rd hlt]
    simp
theorem against_f {V : Int} {L : List (List Int)} {C : List Int} (hC : C.length ≤ 1000) (hl : L.length ≤ 1000) (hs : ∀ c ∈ L, c.length ≤ 1000000) (k : Nat) (hk : 2000 < k) : ratchetref03_Against.f k V L C = some (V, against L C) := by
  unfold ratchetref03_Against.f against
  rw [copy_f V L (by omega) hs k (by omega), Option.bind_some]
  have := against_l0 (V := V) hC C.length 0 k L (by omega) (by omega) (by omega)
  exact this
theorem first_solve {V fuel : Int} (h9 : V ≤ 9) (hf0 : 0 ≤ fuel) (hfu : fuel ≤ 1000) {cl : List (List Int)} (hok : (newSv V cl fuel).Ok) (hm : cl.length ≤ 40) (hs : ∀ c ∈ cl, c.length ≤ 14) (hN : ∀ c ∈ cl, c.Nodup) (k : Nat) (hk : 13000 ≤ k) :
    ∃ b n ok, ratchetref03_First.f k V cl fuel = some (b, n, ok) ∧
      (((newSv V cl fuel).solve.2.failed = true ∧ ok = false) ∨ ((newSv V cl fuel).solve.2.failed = false ∧ ok = true ∧ b = (newSv V cl fuel).solve.1 ∧ ((newSv V cl fuel).solve.1 = false → num V.toNat cl [] = 0))) := by
  have hV0 : 0 ≤ V := hok.vars0
  have hr : ∀ c ∈ cl, ∀ n ∈ c, n ≠ 0 ∧ -V ≤ n ∧ n ≤ V := hok.lits
  have hVe : ((V.toNat : Nat) : Int) = V := by omega
  have hcl9 : ∀ c ∈ cl, ∀ n ∈ c, n ≠ 0 ∧ -((V.toNat : Nat) : Int) ≤ n ∧ n ≤ ((V.toNat : Nat) : Int) := by rw [hVe]; exact hr
  have hL : Listed (newSv V cl fuel).cl (newSv V cl fuel).occ := listed_new cl
  obtain ⟨b1, b2, b3⟩ := begin_spec (s := newSv V cl fuel) hok hL rfl rfl
  obtain ⟨k1, k2⟩ := Sv.begin_ok hok
  have hdone : (newSv V cl fuel).begin.1 < 0 → (newSv V cl fuel).begin.2.done = (newSv V cl fuel).begin.2.trail.length := fun hl => beginFrom_done hok (by omega) hl
  have e1 : (newSv V cl fuel).cl = cl := rfl
  have e2 : (newSv V cl fuel).vars = V := rfl
  have e3 : (newSv V cl fuel).fuel = fuel := rfl
  have e4 : (newSv V cl fuel).steps = 0 := rfl
  have e5 : (newSv V cl fuel).failed = false := rfl
  unfold Sv.solve
  rw [e1] at b1 b2 b3 hL
  generalize (newSv V cl fuel).begin = r at b1 b2 b3 k1 k2 hdone ⊢
  by_cases hneg : r.1 < 0
  · rw [if_neg (by omega)]
    have hst : r.2.steps = 0 := k2.steps.trans e4
    obtain ⟨m, st, hrec, hal⟩ := search_same hV0 h9 hfu hm hs hr hN (k := 1002) (kr := k) (s := r.2) (v := 1) (D := []) k1 (by rw [k2.cl, k2.occ]; exact hL) (hdone hneg) (by rw [k2.cl]; exact b2 hneg) (k2.failed.trans e5) (by omega) (by omega) (k2.vars.trans e2) (k2.cl.trans e1) (k2.fuel.trans e3) (by omega) (by omega) (by omega)
      (fun i i1 i2 => by omega) (by simp) (fun n hn => (b1 n hn).mono (fun _ h => h.elim)) (by simp) (by omega)
    rw [hst] at hrec
    unfold ratchetref03_First.f
    rw [if_pos ⟨hV0, by omega⟩, hrec, Option.bind_some]
    dsimp only
    rcases hal with ⟨g1, g2⟩ | ⟨g1, g2, g3, g4, g5⟩
    · rw [if_pos g2]
      exact ⟨_, _, _, rfl, .inl ⟨g1, rfl⟩⟩
    · rw [if_neg (by omega)]
      refine ⟨_, _, _, rfl, .inr ⟨g1, rfl, g4.symm, fun hfo => ?_⟩⟩
      rw [← g5 hfo]
      exact num_same (t := []) (u := r.2.trail) (by omega) hcl9 (fun n hn => (b1 n hn).mono (fun _ h => h.elim)) (by simp)
  · rw [if_pos (by omega)]
    have hbad : Bad cl (fun x => x ∈ ([] : List Int)) := (b3 hneg).mono (fun _ h => h.elim)
    obtain ⟨k, rfl⟩ : ∃ m, k = m + 1 := ⟨k - 1, by omega⟩
    rcases node hV0 h9 hm hs hr (D := []) (by simp) ⟨by simp, by simp⟩ k (by omega) 0 fuel with ⟨_, _, href⟩ | ⟨T, _, hoT, hcT, hDT, _, _, _⟩
    · unfold ratchetref03_First.f
      rw [if_pos ⟨hV0, by omega⟩, href, Option.bind_some]
      dsimp only
      rw [if_neg (by omega)]
      exact ⟨_, _, _, rfl, .inr ⟨k2.failed.trans e5, rfl, rfl, fun _ => num_bad (by omega) hcl9 hbad⟩⟩
    · exact (closed_not_bad hN hoT.excl hcT hDT hbad).elim
theorem bitsM_succ (j n : Nat) : bitsM (j + 1) n = bitsM j n ++ [((n / 2 ^ j % 2 : Nat) : Int)] := by
  unfold bitsM
  rw [List.range_succ, List.map_append]
  rfl
theorem follows_l1 {V : Nat} (hV : V ≤ 9) (L : List (List Int)) (C : List Int) (is : Bool) (n : Nat) (hn : n < 2 ^ V) : ∀ (d j k : Nat), j + d = V → ratchetlaw03_CnfFollows.l1 (k + d + 1) C is (n : Int) (bitsM j n) (j : Int) (V : Int) L = ratchetlaw03_CnfFollows.l1 (k + 1) C is (n : Int) (bitsM V n) (V : Int) (V : Int) L := by
  intro d
  induction d with
  | zero =>
    intro j k hj
    obtain rfl : j = V := by omega
    rfl
  | succ d ih =>
    intro j k hj
    rw [← ih (j + 1) k (by omega)]
    conv => lhs; rw [show k + (d + 1) + 1 = (k + d + 1) + 1 by omega]
    rw [ratchetlaw03_CnfFollows.l1]
    have hn9 : n < 2 ^ 9 := Nat.lt_of_lt_of_le hn (Nat.pow_le_pow_right (by omega) hV)
    have hp : (1 : Nat) ≤ 2 ^ j := Nat.one_le_two_pow
    have hq : n / 2 ^ j ≤ n := Nat.div_le_self _ _
    have hbl : (bitsM j n).length = j := by simp [bitsM]
    rw [if_pos (by omega), power_small j (by omega), Option.bind_some, if_neg (by omega), if_pos (by omega), w_succ (by omega)]
    have e1 : wrap64 (Int.tdiv (n : Int) ((2 ^ j : Nat) : Int)) = ((n / 2 ^ j : Nat) : Int) := by
      rw [Int.tdiv_eq_ediv_of_nonneg (by omega), ← Int.natCast_ediv]
      generalize n / 2 ^ j = q at hq ⊢
      unfold wrap64
      omega
    have e2 : Int.tmod ((n / 2 ^ j : Nat) : Int) 2 = ((n / 2 ^ j % 2 : Nat) : Int) := by
      rw [Int.tmod_eq_emod_of_nonneg (Int.natCast_nonneg _)]
      omega
    rw [e1, e2, bitsM_succ]
theorem follows_l0 {V : Nat} (hV : V ≤ 9) {L : List (List Int)} (hl : L.length ≤ 24) (hc : (checkFormula (V : Int) L).2 = 0) {C : List Int} (hC : litErr (V : Int) C 12 = 0) (hCl : C.length ≤ 12) (is : Bool) (hall : is = true → ∀ m ∈ allM V, satM L m = true → C.any (litTrue m) = true) :
    ∀ (d n k : Nat), n + d = 2 ^ V → d * 12 + 60 ≤ k → ratchetlaw03_CnfFollows.l0 k C is (n : Int) (V : Int) L = some true := by
  have h29 : 2 ^ V ≤ 512 := Nat.le_trans (Nat.pow_le_pow_right (by omega) hV) (by decide)
  intro d
  induction d with
  | zero =>
    intro n k hn hk
    obtain ⟨k, rfl⟩ : ∃ m, k = m + 1 := ⟨k - 1, by omega⟩
    rw [ratchetlaw03_CnfFollows.l0, power_small V (by omega), Option.bind_some, if_neg (by omega)]
  | succ d ih =>
    intro n k hn hk
    obtain ⟨k, rfl⟩ : ∃ m, k = m + V + 1 + 1 := ⟨k - V - 2, by omega⟩
    have hlt : n < 2 ^ V := by omega
    have h1 := follows_l1 hV L C is n hlt V 0 k (by omega)
    change ratchetlaw03_CnfFollows.l1 (k + V + 1) C is (n : Int) [] 0 (V : Int) L = _ at h1
    have hnext := ih (n + 1) k (by omega) (by omega)
    rw [ratchetlaw03_CnfFollows.l0, power_small V (by omega), Option.bind_some, if_pos (by omega), h1, ratchetlaw03_CnfFollows.l1, if_neg (by omega), w_succ (i := n) (by omega)]
    cases is with
    | false => rw [if_neg (by decide)]; exact hnext
    | true =>
      rw [if_pos rfl]
      have hlen : (bitsM V n).length = V := by simp [bitsM]
      have hmem : bitsM V n ∈ allM V := by rw [allM_bits]; exact List.mem_map.2 ⟨n, List.mem_range.2 hlt, rfl⟩
      have hok := checkFormula_ok hc
      rw [false_f (V : Int) L (bitsM V n) (by omega) (by omega) (allM_bit hmem) (lits_ok hc (by rw [hlen])) _ (by omega), Option.bind_some]
      have hiff := falseFrom_nil (bitsM V n) L 0
      by_cases hs : satM L (bitsM V n) = true
      · rw [if_pos (by have := hiff.2 hs; omega), isTrue_f C (bitsM V n) (by omega) (by omega) (allM_bit hmem) (lits_ok (check_one ⟨hok.1, hok.2.1⟩ hC) (by rw [hlen]) C (by simp)).2 k (by omega), Option.bind_some, if_pos (hall rfl _ hmem hs)]
        exact hnext
      · rw [if_neg (by intro h; exact hs (hiff.1 (by omega)))]
        exact hnext
theorem against_none {V : Nat} (hV : V ≤ 1000) {L : List (List Int)} {C : List Int} (hC : ∀ n ∈ C, n ≠ 0 ∧ -(V : Int) ≤ n ∧ n ≤ V) (h : num V (against L C) [] = 0) : ∀ m ∈ allM V, satM L m = true → C.any (litTrue m) = true := by
  intro m hm hs
  cases hc : C.any (litTrue m) with
  | true => rfl
  | false =>
    exfalso
    unfold num cnt at h
    have := List.countP_eq_zero.1 h m hm
    apply this
    rw [Bool.and_eq_true]
    refine ⟨?_, by simp [hasM]⟩
    unfold satM against
    rw [List.all_append, Bool.and_eq_true]
    refine ⟨hs, List.all_eq_true.2 (fun c hcm => ?_)⟩
    obtain ⟨n, hn, rfl⟩ := List.mem_map.1 hcm
    obtain ⟨a1, a2, a3⟩ := hC n hn
    have hw : wrap64 (-n) = -n := by unfold wrap64; omega
    have hf := List.any_eq_false.1 hc n hn
    simp only [List.any_cons, List.any_nil, Bool.or_false, hw, litTrue_neg hm a1 a2 a3 hV]
    simpa using hf
theorem follows_j0 (a : Int) (l : List (List Int)) (C : List Int) (fuel : Int) (K : Nat) (hK : 20000 ≤ K) (hl : l.length ≤ 24) (hs2 : ∀ c ∈ l, c.length ≤ 14) (hCl : C.length ≤ 14) (h9 : (checkFormula a l).2 = 0 → a ≤ 9) (hfu : 0 ≤ fuel ∧ fuel ≤ 20000 → fuel ≤ 600) :
    ratchetlaw03_CnfFollows.j0 (K + 1 + 1 + 1 + 1) C fuel false a l = some true := by
  have hs3 : ∀ c ∈ l, c.length ≤ 1000000 := fun c hc => by have := hs2 c hc; omega
  rw [ratchetlaw03_CnfFollows.j0, if_neg (by simp), copy_f a l (by omega) hs3 _ (by omega), Option.bind_some, copyInts_f C (by omega), Option.bind_some]
  dsimp only
  unfold cnf_FollowsFrom.f
  rw [Option.bind_some, formulaErr_ref a l _ (by omega), Option.bind_some]
  by_cases hc : (checkFormula a l).2 = 0
  · have ha9 := h9 hc
    obtain ⟨hv0, hv1, _, hv2⟩ := checkFormula_ok hc
    rw [if_pos hc, clauseErr_f a ⟨hv0, hv1⟩ C _ (by omega), Option.bind_some, ratchetlaw03_CnfFollows.j1]
    by_cases hC : litErr a C 12 = 0
    · rw [if_pos hC, fuelErr_ref, Option.bind_some, ratchetlaw03_CnfFollows.j2]
      by_cases hF : 0 ≤ fuel ∧ fuel ≤ 20000
      · have hf6 := hfu hF
        obtain ⟨g1, g2, g3, g4, g5, g6⟩ := against_sv (fuel := fuel) hc hC
        have hcs : ∀ c ∈ against l C, c.length ≤ 14 := fun c hcm => by
          rcases List.mem_append.1 hcm with hcm | hcm
          · exact hs2 c hcm
          · obtain ⟨n, _, rfl⟩ := List.mem_map.1 hcm
            simp
        have hcN : ∀ c ∈ against l C, c.Nodup := fun c hcm => by
          rcases List.mem_append.1 hcm with hcm | hcm
          · exact litErr_nodup (hv2 c hcm)
          · obtain ⟨n, _, rfl⟩ := List.mem_map.1 hcm
            simp
        have hcl : (against l C).length ≤ 40 := by unfold against; rw [List.length_append, List.length_map]; omega
        obtain ⟨b, n, ok, hfirst, hres⟩ := first_solve ha9 hF.1 (by omega) g1 hcl hcs hcN (K + 1) (by omega)
        rw [if_pos hF, if_pos rfl, against_f (by omega) (by omega) hs3 _ (by omega), Option.bind_some]
        dsimp only
        rw [hfirst, Option.bind_some]
        dsimp only
        have hFE : followsErr a l C fuel = 0 := by unfold followsErr; rw [if_pos hc, if_pos hC, if_pos hF]
        rcases hres with ⟨r1, rfl⟩ | ⟨r1, rfl, r3, r4⟩
        · have hFF : followsFrom a l C fuel = (false, 28) := by unfold followsFrom; rw [if_pos hFE, if_pos r1]
          rw [hFF, if_neg (by decide), if_pos rfl]
          rfl
        · have hFF : followsFrom a l C fuel = (!(newSv a (against l C) fuel).solve.1, 0) := by unfold followsFrom; rw [if_pos hFE, if_neg (by rw [r1]; decide)]
          rw [hFF, if_pos rfl, if_pos rfl, ratchetlaw03_CnfFollows.j3, r3]
          dsimp only
          have hva : ((a.toNat : Nat) : Int) = a := by omega
          have h29 : 2 ^ a.toNat ≤ 512 := Nat.le_trans (Nat.pow_le_pow_right (by omega) (by omega : a.toNat ≤ 9)) (by decide)
          have hmemC : ∀ n ∈ C, n ≠ 0 ∧ -((a.toNat : Nat) : Int) ≤ n ∧ n ≤ ((a.toNat : Nat) : Int) := fun n hn => by
            obtain ⟨q1, q2, q3⟩ := litErr_mem hC n hn
            rw [show wrap64 (-a) = -a by unfold wrap64; omega] at q2
            exact ⟨q1, by omega, by omega⟩
          have hfin := follows_l0 (V := a.toNat) (by omega) hl (by rw [hva]; exact hc) (by rw [hva]; exact hC) g6 (!(newSv a (against l C) fuel).solve.1) (fun his => against_none (by omega) hmemC (r4 (by simpa using his))) (2 ^ a.toNat) 0 K (by omega) (by omega)
          rw [hva] at hfin
          rw [if_neg (by cases (newSv a (against l C) fuel).solve.1 <;> decide)]
          exact hfin
      · have hFE : followsErr a l C fuel = 2 := by unfold followsErr; rw [if_pos hc, if_pos hC, if_neg hF]
        have hFF : followsFrom a l C fuel = (false, 2) := by unfold followsFrom; rw [hFE, if_neg (by decide)]
        rw [if_neg hF, if_neg (by decide), hFF, if_pos rfl]
        rfl
    · have hFE : followsErr a l C fuel = litErr a C 12 := by unfold followsErr; rw [if_pos hc, if_neg hC]
      rw [if_neg hC, ratchetlaw03_CnfFollows.j2, if_neg hC]
      have hFF : followsFrom a l C fuel = (false, litErr a C 12) := by unfold followsFrom; rw [hFE, if_neg hC]
      rw [hFF, if_pos rfl]
      rfl
  · have hFE : followsErr a l C fuel = (checkFormula a l).2 := by unfold followsErr; rw [if_neg hc]
    rw [if_neg hc, ratchetlaw03_CnfFollows.j1, if_neg hc, ratchetlaw03_CnfFollows.j2, if_neg hc]
    have hFF : followsFrom a l C fuel = (false, (checkFormula a l).2) := by unfold followsFrom; rw [hFE, if_neg hc]
    rw [hFF, if_pos rfl]
    rfl
theorem cnfFollows_at (a : Int) (l : List (List Int)) (C : List Int) (fuel : Int) (K : Nat) (hK : 20000 ≤ K) : ratchetlaw03_CnfFollows.f (K + 1 + 1 + 1 + 1) a l C fuel = some true := by
  unfold ratchetlaw03_CnfFollows.f ratchetlaw03_awake.f
  simp only [Option.bind_some, if_true]
  rw [few_f a l _ (by omega), Option.bind_some]
  have skip : ratchetlaw03_CnfFollows.j0 (K + 1 + 1 + 1 + 1) C fuel true a l = some true := by rw [ratchetlaw03_CnfFollows.j0, if_pos rfl]
  by_cases hs : (decide (l.length ≤ 24) && slim l) = true
  · rw [if_pos hs]
    rw [Bool.and_eq_true, decide_eq_true_eq] at hs
    obtain ⟨hl, hs⟩ := hs
    have hs2 := slim_mem hs
    rw [formulaErr_ref a l _ (by omega), Option.bind_some, fuelErr_ref]
    simp only [Option.bind_some]
    have tail : ((checkFormula a l).2 = 0 → a ≤ 9) → (if (C.length : Int) > 14 then ratchetlaw03_CnfFollows.j0 (K + 1 + 1 + 1 + 1) C fuel true a l else
        (if (if 0 ≤ fuel ∧ fuel ≤ 20000 then (0 : Int) else 2) = 0 then ratchetlaw03_CnfFollows.j0 (K + 1 + 1 + 1 + 1) C fuel (decide (fuel > 600)) a l else ratchetlaw03_CnfFollows.j0 (K + 1 + 1 + 1 + 1) C fuel false a l)) = some true := by
      intro h9
      by_cases hC : (C.length : Int) > 14
      · rw [if_pos hC, skip]
      · rw [if_neg hC]
        by_cases hF : 0 ≤ fuel ∧ fuel ≤ 20000
        · rw [if_pos hF, if_pos rfl]
          by_cases h6 : fuel > 600
          · rw [decide_eq_true h6, skip]
          · rw [decide_eq_false h6]
            exact follows_j0 a l C fuel K hK hl hs2 (by omega) h9 (fun _ => by omega)
        · rw [if_neg hF, if_neg (by decide)]
          exact follows_j0 a l C fuel K hK hl hs2 (by omega) h9 (fun h => absurd h hF)
    by_cases hc : (checkFormula a l).2 = 0
    · rw [if_pos hc]
      by_cases h9 : a > 9
      · rw [if_pos h9, skip]
      · rw [if_neg h9]
        exact tail (fun _ => by omega)
    · rw [if_neg hc]
      exact tail (fun h => absurd h hc)
  · rw [if_neg hs, skip]
theorem CnfFollows (a : Int) (l : List (List Int)) (C : List Int) (fuel : Int) : ∃ k, ratchetlaw03_CnfFollows.f k a l C fuel = some true := ⟨_, cnfFollows_at a l C fuel 20000 (by omega)⟩
end Go.Proofs.Ytapbkoolddnjgaa.Pure
