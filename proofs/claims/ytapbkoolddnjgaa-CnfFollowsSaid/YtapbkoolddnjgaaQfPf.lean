/- What the claim needs of Pf: lemmas and contracts, cut by a program to what is used. -/
import Derived.Test.YtapbkoolddnjgaaQfPAx10
import Derived.Test.YtapbkoolddnjgaaQfPAx11
import Derived.Test.YtapbkoolddnjgaaQfPAx14
import Derived.Test.YtapbkoolddnjgaaQfPAx22
import Derived.Test.YtapbkoolddnjgaaQfPAx23
import Derived.Test.YtapbkoolddnjgaaQfPAx24
import Derived.Test.YtapbkoolddnjgaaQfPAx3
import Derived.Test.YtapbkoolddnjgaaQfPAx4
import Derived.Test.YtapbkoolddnjgaaQfPAx5
import Derived.Test.YtapbkoolddnjgaaQfPAx7
import Derived.Test.YtapbkoolddnjgaaQfPc
import Derived.Test.YtapbkoolddnjgaaQfPd
import Derived.Test.YtapbkoolddnjgaaQfPq
import Derived.Test.YtapbkoolddnjgaaQfPv
set_option linter.unusedVariables false
set_option linter.unusedSimpArgs false
namespace Go.Proofs.Ytapbkoolddnjgaa.Pure
open Go.RowKit Go.Proofs.Ytapbkoolddnjgaa.PA Go.Proofs.YtapbkoolddnjgaaW.PrintWords Go.Proofs.YtapbkoolddnjgaaW.PrintLast Go.Proofs.Sl
structure OkT (V : Int) (T : List Int) : Prop where
  lits : ∀ n ∈ T, n ≠ 0 ∧ -V ≤ n ∧ n ≤ V
  excl : ∀ n ∈ T, -n ∉ T
theorem OkT.put {V : Int} {T : List Int} (h : OkT V T) {n : Int} (hn : n ≠ 0 ∧ -V ≤ n ∧ n ≤ V) (hx : -n ∉ T) : OkT V (T ++ [n]) := by
  refine ⟨fun m hm => ?_, fun m hm hm2 => ?_⟩
  · rcases List.mem_append.1 hm with hm | hm
    · exact h.lits m hm
    · rw [List.mem_singleton.1 hm]; exact hn
  · rcases List.mem_append.1 hm with hm | hm <;> rcases List.mem_append.1 hm2 with hm2 | hm2
    · exact h.excl m hm hm2
    · exact hx (by rw [← List.mem_singleton.1 hm2, Int.neg_neg]; exact hm)
    · exact hx (List.mem_singleton.1 hm ▸ hm2)
    · have a := List.mem_singleton.1 hm; have b := List.mem_singleton.1 hm2
      omega
structure ValsT (V : Int) (T values : List Int) : Prop where
  len : (values.length : Int) = V + 1
  val : ∀ i : Int, 1 ≤ i → i ≤ V → rd values i = if i ∈ T then 1 else if -i ∈ T then -1 else 0
def putV (values : List Int) (n : Int) : List Int := values.set n.natAbs (if n < 0 then -1 else 1)
theorem rd_set {l : List Int} {i : Nat} {x : Int} {j : Int} (h : i < l.length) : rd (l.set i x) j = if j.toNat = i then x else rd l j := by
  unfold rd
  rw [List.getD_eq_getElem?_getD, List.getD_eq_getElem?_getD]
  by_cases e : i = j.toNat
  · subst e; simp [h]
  · rw [if_neg (fun h => e h.symm), List.getElem?_set_ne e]
theorem ValsT.put {V : Int} {T values : List Int} (h : ValsT V T values) {n : Int} (hn : n ≠ 0 ∧ -V ≤ n ∧ n ≤ V) (hx : -n ∉ T) : ValsT V (T ++ [n]) (putV values n) := by
  have hl := h.len
  refine ⟨by unfold putV; rw [List.length_set]; exact hl, fun i i1 i2 => ?_⟩
  unfold putV
  rw [rd_set (by omega)]
  simp only [List.mem_append, List.mem_singleton]
  by_cases e : i.toNat = n.natAbs
  · rw [if_pos e]
    by_cases h0 : n < 0
    · rw [if_pos h0]
      obtain rfl : i = -n := by omega
      rw [if_neg (fun h => h.elim hx (fun h => by omega)), if_pos (.inr (by omega))]
    · rw [if_neg h0, if_pos (.inr (by omega))]
  · rw [if_neg e, h.val i i1 i2]
    have e1 : i ≠ n := by omega
    have e2 : -i ≠ n := by omega
    simp [e1, e2]
theorem countP_set0 : ∀ {l : List Int} {i : Nat} {x : Int}, i < l.length → l.getD i 0 = 0 → x ≠ 0 → (l.set i x).countP (fun y => y == 0) + 1 = l.countP (fun y => y == 0)
  | [], i, x, h, _, _ => by simp at h
  | a :: l, 0, x, h, h0, hx => by
    simp only [List.getD_cons_zero] at h0
    subst h0
    simp [hx]
  | a :: l, i + 1, x, h, h0, hx => by
    have := countP_set0 (l := l) (i := i) (x := x) (by simpa using h) (by simpa using h0) hx
    simp only [List.set_cons_succ, List.countP_cons]
    omega
theorem size_f {V n : Int} (hV : V ≤ 1000) (hn : n ≠ 0 ∧ -V ≤ n ∧ n ≤ V) : ratchetbase_Size.f n = some (n.natAbs : Int) := by
  unfold ratchetbase_Size.f mx wrap64
  congr 1
  split <;> omega
theorem truth_val {V : Int} {T values : List Int} (h : ValsT V T values) (ho : OkT V T) (hV : V ≤ 1000) {n : Int} (hn : n ≠ 0 ∧ -V ≤ n ∧ n ≤ V) : ratchetref03_truth.f values n = some (if n ∈ T then 1 else if -n ∈ T then -1 else 0) := by
  have hl := h.len
  unfold ratchetref03_truth.f
  by_cases h0 : n > 0
  · rw [if_pos h0, if_pos (by omega), if_pos (by omega), h.val n (by omega) hn.2.2]
  · have hw : wrap64 (-n) = -n := by unfold wrap64; omega
    rw [if_neg h0, hw, if_pos (by omega), if_pos (by omega), h.val (-n) (by omega) (by omega), Int.neg_neg]
    by_cases h1 : n ∈ T
    · rw [if_neg (ho.excl n h1), if_pos h1, if_pos h1]; simp [wrap64]
    · by_cases h2 : -n ∈ T
      · rw [if_pos h2, if_neg h1, if_pos h2]; simp [wrap64]
      · rw [if_neg h2, if_neg h1, if_neg h1, if_neg h2]; simp [wrap64]
theorem given_l0 {V : Int} (hV0 : 0 ≤ V) (hV : V ≤ 1000) {D : List Int} (ho : OkT V D) (hD : D.length ≤ 100000) : ∀ (d i k : Nat) (x : List Int), i + d = D.length → d < k → ValsT V (D.take i) x →
    ∃ y, ratchetref03_given.l0 k D x (i : Int) = some y ∧ ValsT V D y := by
  intro d
  induction d with
  | zero =>
    intro i k x hi hk hx
    obtain ⟨k, rfl⟩ : ∃ m, k = m + 1 := ⟨k - 1, by omega⟩
    rw [List.take_of_length_le (by omega)] at hx
    exact ⟨x, by rw [ratchetref03_given.l0, if_neg (by omega)], hx⟩
  | succ d ih =>
    intro i k x hi hk hx
    obtain ⟨k, rfl⟩ : ∃ m, k = m + 1 := ⟨k - 1, by omega⟩
    have hlt : i < D.length := by omega
    have hrd : rd D (i : Int) = D[i] := by simp [rd, hlt]
    have hm : D[i] ∈ D := List.getElem_mem _
    have hn := ho.lits _ hm
    have hxl := hx.len
    have hno : -D[i] ∉ D.take i := fun h => ho.excl _ hm (List.mem_of_mem_take h)
    have hp := hx.put hn hno
    rw [show D.take i ++ [D[i]] = D.take (i + 1) from by rw [List.take_append_getElem hlt]] at hp
    obtain ⟨y, hy, hy2⟩ := ih (i + 1) k _ (by omega) (by omega) hp
    refine ⟨y, ?_, hy2⟩
    rw [ratchetref03_given.l0, if_pos (by omega), if_pos (by omega), hrd, size_f hV hn, Option.bind_some, if_pos (by omega), if_pos (by omega), Option.bind_some, w_succ (by omega), Int.toNat_natCast, ← hy]
    unfold putV
    by_cases h0 : D[i] < 0
    · have hw : wrap64 (-D[i]) = -D[i] := by unfold wrap64; omega
      rw [if_pos h0, hw, if_pos (by omega), if_pos (by omega), if_pos h0, show (-D[i]).toNat = D[i].natAbs by omega, List.set_set]
    · rw [if_neg h0, if_neg h0]
theorem given_f {V : Int} (hV0 : 0 ≤ V) (hV : V ≤ 1000) {D : List Int} (ho : OkT V D) (hD : D.length ≤ 100000) (cl : List (List Int)) (k : Nat) (hk : D.length < k) :
    ∃ y, ratchetref03_given.f k V cl D = some y ∧ ValsT V D y := by
  have hw : wrap64 (V + 1) = V + 1 := by unfold wrap64; omega
  have h0 : ValsT V (D.take 0) (List.replicate (V + 1).toNat 0) := ⟨by simp; omega, fun i i1 i2 => by
    simp [rd, List.getD_eq_getElem?_getD, List.getElem?_replicate]
    split <;> rfl⟩
  obtain ⟨y, h1, h2⟩ := given_l0 hV0 hV ho hD D.length 0 k _ (by omega) hk h0
  refine ⟨y, ?_, h2⟩
  unfold ratchetref03_given.f
  rw [hw, if_pos (by omega), if_pos (by omega)]
  exact h1
def lastO (T : List Int) : Int → List Int → Int
  | x, [] => x
  | x, n :: c => lastO T (if Op T n = true then n else x) c
theorem lastO_mem (T : List Int) : ∀ (c : List Int) (x : Int), (lastO T x c = x ∧ c.countP (Op T) = 0) ∨ (lastO T x c ∈ c ∧ Op T (lastO T x c) = true)
  | [], x => .inl ⟨rfl, rfl⟩
  | n :: c, x => by
    unfold lastO
    by_cases h : Op T n = true
    · rw [if_pos h]
      rcases lastO_mem T c n with ⟨h1, _⟩ | ⟨h1, h2⟩
      · exact .inr ⟨by rw [h1]; exact List.mem_cons_self .., by rw [h1]; exact h⟩
      · exact .inr ⟨List.mem_cons_of_mem _ h1, h2⟩
    · rw [if_neg h]
      rcases lastO_mem T c x with ⟨h1, h2⟩ | ⟨h1, h2⟩
      · exact .inl ⟨h1, by rw [List.countP_cons, h2]; simp [h]⟩
      · exact .inr ⟨List.mem_cons_of_mem _ h1, h2⟩
theorem prop_l1 {V : Int} {cl : List (List Int)} {T x6 : List Int} (hv : ValsT V T x6) (ho : OkT V T) (hV : V ≤ 1000) (i : Nat) (hi : i < cl.length) (hs : cl[i].length ≤ 14) (hr : ∀ n ∈ cl[i], n ≠ 0 ∧ -V ≤ n ∧ n ≤ V) (x7 : List Int) : ∀ (d j k a : Nat) (b : Int) (t : Bool), j + d = cl[i].length → a ≤ j →
    ratchetref03_Propagated.l1 (k + d + 1) x6 x7 (i : Int) (a : Int) b t (j : Int) V cl = ratchetref03_Propagated.j2 k x6 x7 (i : Int) ((a + (cl[i].drop j).countP (Op T) : Nat) : Int) (lastO T b (cl[i].drop j)) ((t || (cl[i].drop j).any (fun n => decide (n ∈ T))) || decide (a + (cl[i].drop j).countP (Op T) > 1)) V cl := by
  intro d
  induction d with
  | zero =>
    intro j k a b t hj ha
    rw [List.drop_of_length_le (by omega), ratchetref03_Propagated.l1, if_pos (by omega), if_pos (by omega), rdL_of hi, if_neg (by omega)]
    simp only [List.countP_nil, List.any_nil, lastO, Nat.add_zero, Bool.or_false]
    cases t with
    | true => rw [if_pos rfl]; rfl
    | false =>
      rw [if_neg (by decide), Bool.false_or]
      congr 1
      exact decide_eq_decide.2 (by omega)
  | succ d ih =>
    intro j k a b t hj ha
    have hlt : j < cl[i].length := by omega
    have hrd : rd cl[i] (j : Int) = cl[i][j] := by simp [rd, hlt]
    have hn := hr _ (List.getElem_mem hlt)
    rw [show k + (d + 1) + 1 = (k + d + 1) + 1 by omega, ratchetref03_Propagated.l1, if_pos (by omega), if_pos (by omega), rdL_of hi, if_pos (by omega), if_pos (by omega), hrd, truth_val hv ho hV hn, Option.bind_some,
      List.drop_eq_getElem_cons hlt, w_succ (i := j) (by omega)]
    generalize cl[i][j] = n at hn ⊢
    simp only [List.countP_cons, List.any_cons, lastO]
    by_cases h1 : n ∈ T
    · have hop : Op T n = false := by unfold Op; simp [h1]
      rw [if_pos h1, if_pos (by decide), ih (j + 1) k a b true (by omega) (by omega)]
      simp [hop, h1]
    · rw [if_neg h1]
      by_cases h2 : -n ∈ T
      · have hop : Op T n = false := by unfold Op; simp [h2]
        rw [if_pos h2, if_neg (by decide), if_neg (by decide), ih (j + 1) k a b t (by omega) (by omega)]
        simp [hop, h1]
      · have hop : Op T n = true := by unfold Op; simp [h1, h2]
        rw [if_neg h2, if_neg (by decide), if_pos rfl, w_succ (i := a) (by omega), ih (j + 1) k (a + 1) n t (by omega) (by omega), if_pos hop, if_pos hop,
          show a + 1 + (cl[i].drop (j + 1)).countP (Op T) = a + ((cl[i].drop (j + 1)).countP (Op T) + 1) by omega]
        simp [h1]
structure PRes (V : Int) (cl : List (List Int)) (D f : List Int) (e : Int) : Prop where
  ok : OkT V (D ++ f)
  good : e = -1 → Closed cl (D ++ f)
  bad : e ≠ -1 → Bad cl (fun x => x ∈ D)
  sound : ∀ n ∈ D ++ f, Der cl (fun x => x ∈ D) n
  len : f.length ≤ 2000
set_option maxRecDepth 20000 in
theorem prop_l0 {V : Int} (hV0 : 0 ≤ V) (hV : V ≤ 1000) {cl : List (List Int)} (hm : cl.length ≤ 40) (hs : ∀ c ∈ cl, c.length ≤ 14) (hr : ∀ c ∈ cl, ∀ n ∈ c, n ≠ 0 ∧ -V ≤ n ∧ n ≤ V) {D : List Int} (hDl : D.length ≤ 100000)
    (z d i k : Nat) (x6 x7 : List Int) (hi : i + d = cl.length) (hk : z * 1000 + d * 20 + 1 ≤ k) (hv : ValsT V (D ++ x7) x6) (ho : OkT V (D ++ x7)) (hz : x6.countP (fun y => y == 0) ≤ z) (hx : x7.length + z ≤ 2000)
    (hd : ∀ n ∈ D ++ x7, Der cl (fun x => x ∈ D) n) (hc : ∀ (j : Nat) (h : j < cl.length), j < i → (∃ n ∈ cl[j], n ∈ D ++ x7) ∨ 2 ≤ cl[j].countP (Op (D ++ x7))) :
    ∃ f e, ratchetref03_Propagated.l0 k x6 x7 (i : Int) V cl = some (f, e) ∧ PRes V cl D f e := by
  obtain ⟨k, rfl⟩ : ∃ m, k = m + 1 := ⟨k - 1, by omega⟩
  cases d with
  | zero =>
    refine ⟨x7, -1, by rw [ratchetref03_Propagated.l0, if_neg (by omega)], ho, fun _ c hcm => ?_, fun h => absurd rfl h, hd, by omega⟩
    obtain ⟨j, hj, rfl⟩ := List.getElem_of_mem hcm
    exact hc j hj (by omega)
  | succ d =>
    have hlt : i < cl.length := by omega
    have hmem : cl[i] ∈ cl := List.getElem_mem _
    have hl := hs _ hmem
    obtain ⟨k', hk'⟩ : ∃ m, k = m + 1 + cl[i].length + 1 := ⟨k - cl[i].length - 2, by omega⟩
    have h1 := prop_l1 hv ho hV i hlt hl (hr _ hmem) x7 cl[i].length 0 (k' + 1) 0 0 false (by omega) (by omega)
    rw [List.drop_zero, Nat.zero_add, Bool.false_or] at h1
    change ratchetref03_Propagated.l1 (k' + 1 + cl[i].length + 1) x6 x7 (i : Int) 0 0 false 0 V cl = _ at h1
    rw [ratchetref03_Propagated.l0, if_pos (by omega), hk', h1, ratchetref03_Propagated.j2]
    by_cases hx1 : (cl[i].any (fun n => decide (n ∈ D ++ x7)) || decide (cl[i].countP (Op (D ++ x7)) > 1)) = true
    · rw [if_pos hx1, w_succ (by omega)]
      refine prop_l0 hV0 hV hm hs hr hDl z d (i + 1) k' x6 x7 (by omega) (by omega) hv ho hz hx hd (fun j h hj => ?_)
      by_cases e : j = i
      · subst e
        rw [Bool.or_eq_true, List.any_eq_true, decide_eq_true_eq] at hx1
        rcases hx1 with ⟨n, hn, hn2⟩ | hx1
        · exact .inl ⟨n, hn, of_decide_eq_true hn2⟩
        · exact .inr hx1
      · exact hc j h (by omega)
    · rw [if_neg hx1]
      rw [Bool.or_eq_true, List.any_eq_true, decide_eq_true_eq] at hx1
      have hno : ∀ n ∈ cl[i], n ∉ D ++ x7 := fun n hn h => hx1 (.inl ⟨n, hn, decide_eq_true h⟩)
      have hle : cl[i].countP (Op (D ++ x7)) ≤ 1 := by
        have : ¬ cl[i].countP (Op (D ++ x7)) > 1 := fun h => hx1 (.inr h)
        omega
      have hneg : ∀ n ∈ cl[i], Op (D ++ x7) n = false → -n ∈ D ++ x7 := by
        intro n hn h
        unfold Op at h
        have := hno n hn
        by_cases h2 : -n ∈ D ++ x7
        · exact h2
        · rw [decide_eq_true this, decide_eq_true h2] at h; cases h
      by_cases h0 : cl[i].countP (Op (D ++ x7)) = 0
      · rw [if_pos (by rw [h0]; rfl)]
        refine ⟨x7, (i : Int), rfl, ho, fun h => absurd h (by omega), fun _ => ⟨cl[i], hmem, fun n hn => ?_⟩, hd, by omega⟩
        refine hd _ (hneg n hn ?_)
        have := List.countP_eq_zero.1 h0 n hn
        simpa using this
      · rw [if_neg (by omega)]
        rcases lastO_mem (D ++ x7) cl[i] 0 with ⟨_, h2⟩ | ⟨hn0, hop⟩
        · exact absurd h2 h0
        generalize lastO (D ++ x7) 0 cl[i] = n0 at hn0 hop
        have hrn := hr _ hmem n0 hn0
        have hopen : n0 ∉ D ++ x7 ∧ -n0 ∉ D ++ x7 := by
          unfold Op at hop
          rw [Bool.and_eq_true, decide_eq_true_eq, decide_eq_true_eq] at hop
          exact hop
        have huniq : ∀ m ∈ cl[i], m ≠ n0 → -m ∈ D ++ x7 := by
          intro m hmm hne
          refine hneg m hmm ?_
          cases hom : Op (D ++ x7) m with
          | false => rfl
          | true =>
            exfalso
            have hlen : (cl[i].filter (Op (D ++ x7))).length ≤ 1 := by rw [← List.countP_eq_length_filter]; exact hle
            have m1 : m ∈ cl[i].filter (Op (D ++ x7)) := List.mem_filter.2 ⟨hmm, hom⟩
            have m2 : n0 ∈ cl[i].filter (Op (D ++ x7)) := List.mem_filter.2 ⟨hn0, hop⟩
            generalize cl[i].filter (Op (D ++ x7)) = q at hlen m1 m2
            match q, hlen, m1, m2 with
            | [y], _, m1, m2 => exact hne ((List.mem_singleton.1 m1).trans (List.mem_singleton.1 m2).symm)
        have hder : Der cl (fun x => x ∈ D) n0 := .unit hmem hn0 (fun m hmm hne => hd _ (huniq m hmm hne))
        have hput := hv.put hrn hopen.2
        have hput2 := ho.put hrn hopen.2
        have hxl := hv.len
        have hz0 : x6.getD n0.natAbs 0 = 0 := by
          have hiv := hv.val (n0.natAbs : Int) (by omega) (by omega)
          rw [show rd x6 (n0.natAbs : Int) = x6.getD n0.natAbs 0 by unfold rd; rw [Int.toNat_natCast]] at hiv
          rw [hiv]
          by_cases hp : 0 < n0
          · rw [show (n0.natAbs : Int) = n0 by omega, if_neg hopen.1, if_neg hopen.2]
          · rw [show (n0.natAbs : Int) = -n0 by omega, Int.neg_neg, if_neg hopen.2, if_neg hopen.1]
        have hcnt : (putV x6 n0).countP (fun y => y == 0) + 1 = x6.countP (fun y => y == 0) := countP_set0 (by omega) hz0 (by split <;> decide)
        obtain ⟨z, rfl⟩ : ∃ m, z = m + 1 := ⟨z - 1, by omega⟩
        have hrec := prop_l0 hV0 hV hm hs hr hDl z cl.length 0 k' (putV x6 n0) (x7 ++ [n0]) (by omega) (by omega) (by rw [← List.append_assoc]; exact hput) (by rw [← List.append_assoc]; exact hput2) (by omega) (by rw [List.length_append, List.length_singleton]; omega)
          (fun n hn => by
            rw [← List.append_assoc] at hn
            rcases List.mem_append.1 hn with hn | hn
            · exact hd n hn
            · rw [List.mem_singleton.1 hn]; exact hder) (fun j h hj => absurd hj (Nat.not_lt_zero _))
        have hx7 : x7.length < 17592186044416 := by clear hk hk'; omega
        rw [if_pos hx7, Option.bind_some, size_f hV hrn, Option.bind_some, if_pos (by omega), if_pos (by omega), Option.bind_some, Int.toNat_natCast, show ((-1 : Int) + 1) = ((0 : Nat) : Int) from rfl]
        by_cases hlt0 : n0 < 0
        · have hw : wrap64 (-n0) = -n0 := by unfold wrap64; omega
          rw [if_pos hlt0, hw, if_pos (by omega), if_pos (by omega), show (-n0).toNat = n0.natAbs by omega, List.set_set]
          have hpv : putV x6 n0 = x6.set n0.natAbs (-1) := by unfold putV; rw [if_pos hlt0]
          rw [← hpv]; exact hrec
        · rw [if_neg hlt0]
          have hpv : putV x6 n0 = x6.set n0.natAbs 1 := by unfold putV; rw [if_neg hlt0]
          rw [← hpv]; exact hrec
termination_by (z, d)
theorem prop_f {V : Int} (hV0 : 0 ≤ V) (hV : V ≤ 9) {cl : List (List Int)} (hm : cl.length ≤ 40) (hs : ∀ c ∈ cl, c.length ≤ 14) (hr : ∀ c ∈ cl, ∀ n ∈ c, n ≠ 0 ∧ -V ≤ n ∧ n ≤ V) {D : List Int} (hDl : D.length ≤ 1000) (ho : OkT V D) (k : Nat) (hk : 12000 ≤ k) :
    ∃ f e, ratchetref03_Propagated.f k V cl D = some (f, e) ∧ PRes V cl D f e := by
  obtain ⟨y, h1, h2⟩ := given_f hV0 (by omega) ho (by omega) cl k (by omega)
  have hl := h2.len
  have hc : y.countP (fun y => y == 0) ≤ 10 := Nat.le_trans List.countP_le_length (by omega)
  unfold ratchetref03_Propagated.f
  rw [h1, Option.bind_some]
  exact prop_l0 hV0 (by omega) hm hs hr (by omega) 10 cl.length 0 k y [] (by omega) (by omega) (by rw [List.append_nil]; exact h2) (by rw [List.append_nil]; exact ho) hc (by simp) (fun n hn => .base (by rw [List.append_nil] at hn; exact hn)) (fun j h hj => absurd hj (Nat.not_lt_zero _))
theorem der_in {cl : List (List Int)} {t : List Int} {D : Int → Prop} (hN : ∀ c ∈ cl, c.Nodup) (hex : ∀ n ∈ t, -n ∉ t) (hc : Closed cl t) (hD : ∀ n, D n → n ∈ t) {n : Int} (h : Der cl D n) : n ∈ t := by
  induction h with
  | base hd => exact hD _ hd
  | @unit c n hcm hn _ ih =>
    rcases hc c hcm with ⟨m, hm, ht⟩ | h2
    · by_cases e : m = n
      · exact e ▸ ht
      · exact absurd (ih m hm e) (hex m ht)
    · exfalso
      have hall : ∀ m ∈ c.filter (Op t), m = n := by
        intro m hm
        obtain ⟨hm1, hm2⟩ := List.mem_filter.1 hm
        by_cases e : m = n
        · exact e
        · unfold Op at hm2
          rw [Bool.and_eq_true, decide_eq_true_eq, decide_eq_true_eq] at hm2
          exact absurd (ih m hm1 e) hm2.2
      have hnd : (c.filter (Op t)).Nodup := (hN c hcm).filter _
      rw [List.countP_eq_length_filter] at h2
      generalize c.filter (Op t) = q at hall hnd h2
      match q, hall, hnd, h2 with
      | a :: b :: _, hall, hnd, _ =>
        have e1 := hall a (by simp)
        have e2 := hall b (by simp)
        simp [e1, e2] at hnd
theorem closed_not_bad {cl : List (List Int)} {t : List Int} {D : Int → Prop} (hN : ∀ c ∈ cl, c.Nodup) (hex : ∀ n ∈ t, -n ∉ t) (hc : Closed cl t) (hD : ∀ n, D n → n ∈ t) : ¬ Bad cl D := by
  rintro ⟨c, hcm, hb⟩
  rcases hc c hcm with ⟨m, hm, ht⟩ | h2
  · exact hex m ht (der_in hN hex hc hD (hb m hm))
  · obtain ⟨m, hm, hop⟩ := List.countP_pos_iff.1 (show 0 < c.countP (Op t) by omega)
    unfold Op at hop
    rw [Bool.and_eq_true, decide_eq_true_eq, decide_eq_true_eq] at hop
    exact hop.2 (der_in hN hex hc hD (hb m hm))
theorem Bad.mono {cl : List (List Int)} {D E : Int → Prop} (h : ∀ n, D n → Der cl E n) (hb : Bad cl D) : Bad cl E := by
  obtain ⟨c, hc, hn⟩ := hb
  exact ⟨c, hc, fun n hm => (hn n hm).mono h⟩
theorem nextV_before {s : Sv} (h : s.Ok) : ∀ (q : Nat) (u : Int), 1 ≤ u → u ≤ s.vars + 1 → s.vars + 1 - u < q → (∀ i : Int, 1 ≤ i → i < u → i ∈ s.trail ∨ -i ∈ s.trail) → ∀ i : Int, 1 ≤ i → i < s.nextV q u → i ∈ s.trail ∨ -i ∈ s.trail := by
  intro q
  induction q with
  | zero => intro u a1 a2 a3; omega
  | succ q ih =>
    intro u a1 a2 a3 a4 i b1 b2
    unfold Sv.nextV at b2
    by_cases hu : u ≤ s.vars
    · rw [if_pos hu] at b2
      by_cases hz : rd s.vals u = 0
      · rw [if_pos hz] at b2
        exact a4 i b1 b2
      · rw [if_neg hz] at b2
        refine ih (u + 1) (by omega) (by omega) (by omega) (fun j c1 c2 => ?_) i b1 b2
        by_cases e : j = u
        · have hl := lit_det h (n := u) ⟨by omega, by omega, hu⟩
          have hlv : litVal s.vals u = rd s.vals u := by unfold litVal; rw [if_neg (by omega)]
          rw [e]
          by_cases g1 : u ∈ s.trail
          · exact .inl g1
          · by_cases g2 : -u ∈ s.trail
            · exact .inr g2
            · rw [if_neg g1, if_neg g2, hlv] at hl; exact absurd hl hz
        · exact a4 j c1 (by omega)
    · rw [if_neg hu] at b2
      exact a4 i b1 b2
theorem node {V : Int} (hV0 : 0 ≤ V) (h9 : V ≤ 9) {cl : List (List Int)} (hm : cl.length ≤ 40) (hs : ∀ c ∈ cl, c.length ≤ 14) (hr : ∀ c ∈ cl, ∀ n ∈ c, n ≠ 0 ∧ -V ≤ n ∧ n ≤ V) {D : List Int} (hDl : D.length ≤ 1000) (ho : OkT V D) (k : Nat) (hk : 12000 ≤ k) (steps fuel : Int) :
    (Bad cl (fun x => x ∈ D) ∧ (∀ t : List Int, (∀ n ∈ t, -n ∉ t) → Closed cl t → (∀ n ∈ D, n ∈ t) → (∀ c ∈ cl, c.Nodup) → False) ∧ refSearch (k + 1) V cl D steps fuel = some (none, steps)) ∨
    (∃ T values, OkT V T ∧ Closed cl T ∧ (∀ n ∈ D, n ∈ T) ∧ (∀ n ∈ T, Der cl (fun x => x ∈ D) n) ∧ ValsT V T values ∧ refSearch (k + 1) V cl D steps fuel = (if V < openFrom values V 1002 1 then some (some (modelOf values V), steps) else
      signs (fun lit steps => refSearch k V cl (D ++ [lit]) steps fuel) (openFrom values V 1002 1) fuel 2 (-1) steps)) := by
  obtain ⟨f, e, hp, hres⟩ := prop_f hV0 h9 hm hs hr hDl ho k hk
  by_cases he : e = -1
  · refine .inr ?_
    obtain ⟨values, hg, hv⟩ := given_f hV0 (by omega) hres.ok (by rw [List.length_append]; have := hres.len; omega) cl k (by rw [List.length_append]; have := hres.len; omega)
    refine ⟨D ++ f, values, hres.ok, hres.good he, fun n hn => List.mem_append_left _ hn, hres.sound, hv, ?_⟩
    have := hres.len
    rw [refSearch, if_pos (by omega), hp, Option.bind_some]
    dsimp only
    rw [if_neg (fun h => h he), if_pos (by omega), hg, Option.bind_some, if_pos hv.len]
  · refine .inl ⟨hres.bad he, fun t h1 h2 h3 h4 => closed_not_bad h4 h1 h2 h3 (hres.bad he), ?_⟩
    rw [refSearch, if_pos (by omega), hp, Option.bind_some]
    dsimp only
    rw [if_pos he]
def Alike2 (V fuel : Int) (cl : List (List Int)) (t : List Int) (m : Option (List Int)) (st : Int) (r : Bool × Sv) : Prop :=
  (r.2.failed = true ∧ fuel < st) ∨ (r.2.failed = false ∧ r.2.steps = st ∧ st ≤ fuel ∧ r.1 = m.isSome ∧ (r.1 = false → num V.toNat cl t = 0))
theorem search_same {V fuel : Int} (hV0 : 0 ≤ V) (h9 : V ≤ 9) (hfu : fuel ≤ 1000) {cl : List (List Int)} (hm : cl.length ≤ 40) (hs : ∀ c ∈ cl, c.length ≤ 14) (hr : ∀ c ∈ cl, ∀ n ∈ c, n ≠ 0 ∧ -V ≤ n ∧ n ≤ V) (hN : ∀ c ∈ cl, c.Nodup) :
    ∀ {k kr : Nat} {s : Sv} {v : Int} {D : List Int}, s.Ok → Listed s.cl s.occ → s.done = s.trail.length → Closed s.cl s.trail → s.failed = false → 0 ≤ s.steps → s.steps ≤ fuel → s.vars = V → s.cl = cl → s.fuel = fuel → 1 ≤ v → v ≤ V + 1 → V + 1 - v < k →
    (∀ i : Int, 1 ≤ i → i < v → i ∈ s.trail ∨ -i ∈ s.trail) → (∀ n ∈ D, n ∈ s.trail) → (∀ n ∈ s.trail, Der cl (fun x => x ∈ D) n) → (D.length : Int) < v → 12000 + (V + 1 - v) < kr →
    ∃ m st, refSearch kr V cl D s.steps fuel = some (m, st) ∧ Alike2 V fuel cl s.trail m st (Sv.search k s v)
  | 0, kr, s, v, D, h, ho, hd, hc, hf, h0, h1, hvr, hcl, hfe, hv1, hv2, hk, hb, hD, hT, hDl, hkr => by omega
  | k + 1, kr, s, v, D, h, ho, hd, hc, hf, h0, h1, hvr, hcl, hfe, hv1, hv2, hk, hb, hD, hT, hDl, hkr => by
    obtain ⟨kr, rfl⟩ : ∃ m, kr = m + 1 := ⟨kr - 1, by omega⟩
    have hVe : ((V.toNat : Nat) : Int) = V := by omega
    have hV : V.toNat ≤ 1000 := by omega
    have hcl9 : ∀ c ∈ cl, ∀ n ∈ c, n ≠ 0 ∧ -((V.toNat : Nat) : Int) ≤ n ∧ n ≤ ((V.toNat : Nat) : Int) := by rw [hVe]; exact hr
    have hokD : OkT V D := ⟨fun n hn => hvr ▸ h.tlits n (hD n hn), fun n hn hn2 => trail_excl h (hD n hn) (hD _ hn2)⟩
    have hex : ∀ n ∈ s.trail, -n ∉ s.trail := fun n hn => trail_excl h hn
    have hcs : Closed cl s.trail := hcl ▸ hc
    rcases node hV0 h9 hm hs hr (by omega) hokD kr (by omega) s.steps fuel with ⟨_, hno, _⟩ | ⟨T, values, hoT, hcT, hDT, hTd, hvT, href⟩
    · exact (hno s.trail hex hcs hD hN).elim
    have sub1 : ∀ n ∈ T, n ∈ s.trail := fun n hn => der_in hN hex hcs hD (hTd n hn)
    have sub2 : ∀ n ∈ s.trail, n ∈ T := fun n hn => der_in hN hoT.excl hcT hDT (hT n hn)
    have hval : ∀ i : Int, 1 ≤ i → i ≤ V → (rd values i = 0 ↔ rd s.vals i = 0) := by
      intro i i1 i2
      have e1 := hvT.val i i1 i2
      have e2 := lit_det h (n := i) ⟨by omega, by omega, by omega⟩
      rw [show litVal s.vals i = rd s.vals i by unfold litVal; rw [if_neg (by omega)]] at e2
      rw [e1, e2]
      have a1 : i ∈ T ↔ i ∈ s.trail := ⟨sub1 i, sub2 i⟩
      have a2 : -i ∈ T ↔ -i ∈ s.trail := ⟨sub1 _, sub2 _⟩
      simp only [a1, a2]
    have hnx := nextV_spec (s := s) (k := 1002) hv1 (by omega) (by omega)
    have hbefore := nextV_before h 1002 v hv1 (by omega) (by omega) hb
    have hop := openFrom_spec (values := values) (V := V) (k := 1002) (v := 1) (by omega) (by omega) (by omega)
    have hnv : openFrom values V 1002 1 = s.nextV 1002 v := by
      obtain ⟨b1, b2, b3, b4⟩ := hop
      obtain ⟨n1, n2, n3⟩ := hnx
      generalize openFrom values V 1002 1 = o at b1 b2 b3 b4 ⊢
      generalize s.nextV 1002 v = nv at n1 n2 n3 hbefore ⊢
      rcases Int.lt_trichotomy o nv with hlt | he | hlt
      · exfalso
        have hz := (hval o b1 (by omega)).1 (b3 (by omega))
        have e2 := lit_det h (n := o) ⟨by omega, by omega, by omega⟩
        rw [show litVal s.vals o = rd s.vals o by unfold litVal; rw [if_neg (by omega)], hz] at e2
        rcases hbefore o b1 hlt with g | g
        · rw [if_pos g] at e2; cases e2
        · rw [if_neg (fun h1 => hex o h1 g), if_pos g] at e2; cases e2
      · exact he
      · exact absurd ((hval nv (by omega) (by omega)).2 (n3 (by omega))) (b4 nv (by omega) hlt)
    rw [href, hnv]
    clear href hnv hop hvT
    unfold Sv.search
    generalize s.nextV 1002 v = nv at hnx hbefore ⊢
    obtain ⟨n1, n2, n3⟩ := hnx
    rw [hvr] at n2 n3 ⊢
    by_cases hlast : V < nv
    · rw [if_pos hlast, if_pos hlast]
      exact ⟨_, _, rfl, .inr ⟨hf, rfl, h1, rfl, fun h => by cases h⟩⟩
    rw [if_neg hlast, if_neg hlast]
    obtain ⟨z1, z2⟩ := litVal_zero (s := s) (v := nv) (by omega) (n3 (by omega))
    have branch : ∀ (x y : Int), (x = nv ∨ x = -nv) → 0 ≤ y → y + 1 ≤ fuel → ∃ m st, refSearch kr V cl (D ++ [x]) (y + 1) fuel = some (m, st) ∧
        ((∃ b t, trySearch (fun t => Sv.search k t (nv + 1)) x ({ s with steps := y } : Sv) = (some b, t) ∧ ((t.failed = true ∧ fuel < st) ∨ (t.failed = false ∧ t.steps = st ∧ st ≤ fuel ∧ b = true ∧ m.isSome = true))) ∨
         (trySearch (fun t => Sv.search k t (nv + 1)) x ({ s with steps := y } : Sv) = (none, ({ s with steps := st } : Sv)) ∧ y + 1 ≤ st ∧ st ≤ fuel ∧ m = none ∧ num V.toNat cl (s.trail ++ [x]) = 0)) := by
      intro x y hx hy0 hy
      have hxr : x ≠ 0 ∧ -s.vars ≤ x ∧ x ≤ s.vars := by rw [hvr]; rcases hx with rfl | rfl <;> exact ⟨by omega, by omega, by omega⟩
      have hx0 : litVal s.vals x = 0 := by rcases hx with rfl | rfl; exact z1; exact z2
      have hok1 : ({ s with steps := y + 1 } : Sv).Ok := by have := h.steps (y + 1) s.failed; exact this
      obtain ⟨t1, t2, t3, _, t5⟩ := tried hok1 hd hxr hx0
      obtain ⟨p1, p2, p3⟩ := tried_spec hok1 ho hd hc hxr hx0
      have ha : (({ s with steps := y + 1 } : Sv).assume x (-1)).Alike ((({ s with steps := y + 1 } : Sv).assume x (-1)).propagate 1002).2 := (Sv.propagate_ok (hok1.assume hxr hx0)).2
      have htry : trySearch (fun t => Sv.search k t (nv + 1)) x ({ s with steps := y } : Sv) = (if ((({ s with steps := y + 1 } : Sv).assume x (-1)).propagate 1002).1 < 0 then
          (if (Sv.search k ((({ s with steps := y + 1 } : Sv).assume x (-1)).propagate 1002).2 (nv + 1)).1 = true ∨ (Sv.search k ((({ s with steps := y + 1 } : Sv).assume x (-1)).propagate 1002).2 (nv + 1)).2.failed = true then
            (some (Sv.search k ((({ s with steps := y + 1 } : Sv).assume x (-1)).propagate 1002).2 (nv + 1)).1, (Sv.search k ((({ s with steps := y + 1 } : Sv).assume x (-1)).propagate 1002).2 (nv + 1)).2)
          else (none, (Sv.search k ((({ s with steps := y + 1 } : Sv).assume x (-1)).propagate 1002).2 (nv + 1)).2.back s.trail.length))
        else (none, ((({ s with steps := y + 1 } : Sv).assume x (-1)).propagate 1002).2.back s.trail.length)) := by
        unfold trySearch
        exact if_neg (by show ¬ s.fuel < y + 1; omega)
      rw [htry]
      clear htry
      generalize (({ s with steps := y + 1 } : Sv).assume x (-1)).propagate 1002 = r at t1 t2 t3 t5 p1 p2 p3 ha ⊢
      have hD2 : (fun z => z ∈ s.trail ∨ z = x) = (fun z => z ∈ s.trail ++ [x]) := by
        funext z; simp
      change (∀ m ∈ r.2.trail, Der s.cl (fun z => z ∈ s.trail ∨ z = x) m) at p1
      change ¬ r.1 < 0 → Bad s.cl (fun z => z ∈ s.trail ∨ z = x) at p3
      rw [hcl] at p1 p3
      have hmono : ∀ n : Int, (n ∈ s.trail ∨ n = x) → Der cl (fun z => z ∈ D ++ [x]) n := by
        intro n hn
        rcases hn with hn | hn
        · exact (hT n hn).mono (fun m hm => .base (List.mem_append_left _ hm))
        · exact .base (by rw [hn]; simp)
      have hDx : ∀ n ∈ D ++ [x], n ∈ s.trail ++ [x] := fun n hn => by
        rcases List.mem_append.1 hn with hn | hn
        · exact List.mem_append_left _ (hD n hn)
        · exact List.mem_append_right _ hn
      have hopx := (lit_zero h hxr).1 hx0
      unfold Op at hopx
      rw [Bool.and_eq_true, decide_eq_true_eq, decide_eq_true_eq] at hopx
      have hokx : OkT V (D ++ [x]) := hokD.put (hvr ▸ hxr) (fun hh => hopx.2 (hD _ hh))
      obtain ⟨l, hl⟩ := ha.trail
      have hsub : ∀ n ∈ s.trail ++ [x], n ∈ r.2.trail := fun n hn => by rw [hl]; exact List.mem_append_left _ hn
      by_cases hneg : r.1 < 0
      · rw [if_pos hneg]
        have hcl2 : r.2.cl = s.cl := t2.cl
        have hoc2 : r.2.occ = s.occ := t2.occ
        have hva2 : r.2.vars = s.vars := t2.vars
        have hfu2 : r.2.fuel = s.fuel := t2.fuel
        have hst2 : r.2.steps = y + 1 := t2.steps
        have hfa2 : r.2.failed = false := t2.failed.trans hf
        obtain ⟨m, st, hrec, hal⟩ := search_same hV0 h9 hfu hm hs hr hN (k := k) (kr := kr) (s := r.2) (v := nv + 1) (D := D ++ [x]) t1 (by rw [hcl2, hoc2]; exact ho) (t5 hneg) (by rw [hcl2]; exact p2 hneg) hfa2 (by omega) (by omega) (hva2.trans hvr) (hcl2.trans hcl) (hfu2.trans hfe) (by omega) (by omega) (by omega)
          (fun i i1 i2 => by
            by_cases e : i = nv
            · rcases hx with rfl | rfl
              · exact .inl (e ▸ hsub _ (by simp))
              · exact .inr (e ▸ hsub _ (by simp))
            · rcases hbefore i i1 (by omega) with g | g
              · exact .inl (hsub _ (List.mem_append_left _ g))
              · exact .inr (hsub _ (List.mem_append_left _ g)))
          (fun n hn => hsub n (hDx n hn)) (fun n hn => (p1 n hn).mono hmono) (by rw [List.length_append, List.length_singleton]; omega) (by omega)
        rw [hst2] at hrec
        refine ⟨m, st, hrec, ?_⟩
        have hsp := search_spec (k := k) (s := r.2) (v := nv + 1) t1 (t5 hneg) hfa2 (by omega) (by omega) (by omega) (by omega)
        rcases hal with ⟨g1, g2⟩ | ⟨g1, g2, g3, g4, g5⟩
        · rw [if_pos (.inr g1)]
          exact .inl ⟨_, _, rfl, .inl ⟨g1, g2⟩⟩
        · cases hfo : (Sv.search k r.2 (nv + 1)).1 with
          | true =>
            rw [if_pos (.inl rfl)]
            exact .inl ⟨_, _, rfl, .inr ⟨g1, g2, g3, rfl, by rw [← g4, hfo]⟩⟩
          | false =>
            rw [if_neg (by rw [g1]; simp)]
            obtain ⟨x9, hx9, hx8, _⟩ := hsp.back hfo g1
            refine .inr ⟨?_, ?_, g3, ?_, ?_⟩
            · rw [hx9, back_steps, t3]
              rw [hx9] at g2
              have : x9 = st := g2
              rw [this]
            · rw [hx9] at g2
              have : x9 = st := g2
              omega
            · rw [hfo] at g4
              cases m with
              | none => rfl
              | some m => cases g4
            · have := g5 hfo
              rw [hD2] at p1
              rw [num_same hV hcl9 p1 hsub]
              exact this
      · rw [if_neg hneg, t3]
        obtain ⟨kr2, rfl⟩ : ∃ q, kr = q + 1 := ⟨kr - 1, by omega⟩
        have hbad : Bad cl (fun z => z ∈ D ++ [x]) := (p3 hneg).mono hmono
        rcases node hV0 h9 hm hs hr (by rw [List.length_append, List.length_singleton]; omega) hokx kr2 (by omega) (y + 1) fuel with ⟨_, _, href2⟩ | ⟨T2, _, hoT2, hcT2, hDT2, _, _, _⟩
        · refine ⟨none, y + 1, href2, .inr ⟨rfl, Int.le_refl _, hy, rfl, ?_⟩⟩
          have := p3 hneg
          rw [hD2] at this
          exact num_bad hV hcl9 this
        · exact (closed_not_bad hN hoT2.excl hcT2 hDT2 hbad).elim
    have hw1 : wrap64 (s.steps + 1) = s.steps + 1 := by unfold wrap64; omega
    have hw2 : wrap64 (-1 * nv) = -nv := by unfold wrap64; omega
    have hw3 : wrap64 ((-1 + 2) * nv) = nv := by unfold wrap64; omega
    unfold signs
    rw [hw1]
    by_cases hf1 : s.steps + 1 > fuel
    · rw [if_pos hf1]
      refine ⟨none, s.steps + 1, rfl, .inl ⟨?_, hf1⟩⟩
      unfold trySearch
      rw [if_pos (by omega)]
      rfl
    rw [if_neg hf1, hw2]
    obtain ⟨m1, st1, hr1, hb1⟩ := branch (-nv) s.steps (.inr rfl) h0 (by omega)
    rw [hr1, Option.bind_some]
    dsimp only
    rcases hb1 with ⟨b, t, e1, hbt⟩ | ⟨e1, hle1, hle2, rfl, hn1⟩
    · have e1' : trySearch (fun t => Sv.search k t (nv + 1)) (-nv) s = (some b, t) := e1
      rw [e1']
      refine ⟨m1, st1, ?_, ?_⟩
      · rw [if_pos]
        rcases hbt with ⟨_, g⟩ | ⟨_, _, _, _, g⟩
        · exact .inr g
        · exact .inl g
      · rcases hbt with ⟨g1, g2⟩ | ⟨g1, g2, g3, rfl, g4⟩
        · exact .inl ⟨g1, g2⟩
        · exact .inr ⟨g1, g2, g3, g4.symm, fun h => by cases h⟩
    have e1' : trySearch (fun t => Sv.search k t (nv + 1)) (-nv) s = (none, ({ s with steps := st1 } : Sv)) := e1
    rw [e1', if_neg (by simp; omega)]
    have hw4 : wrap64 (st1 + 1) = st1 + 1 := by unfold wrap64; omega
    unfold signs
    rw [hw4]
    show ∃ m st, _ ∧ Alike2 V fuel cl s.trail m st (thenTry (trySearch (fun t => Sv.search k t (nv + 1)) nv ({ s with steps := st1 } : Sv)) fun t => (false, t))
    by_cases hf2 : st1 + 1 > fuel
    · rw [if_pos hf2]
      refine ⟨none, st1 + 1, rfl, .inl ⟨?_, hf2⟩⟩
      unfold trySearch
      rw [if_pos (by show s.fuel < st1 + 1; omega)]
      rfl
    rw [if_neg hf2, hw3]
    obtain ⟨m2, st2, hr2, hb2⟩ := branch nv st1 (.inl rfl) (by omega) (by omega)
    rw [hr2, Option.bind_some]
    dsimp only
    rcases hb2 with ⟨b, t, e2, hbt⟩ | ⟨e2, hle3, hle4, rfl, hn2⟩
    · rw [e2]
      refine ⟨m2, st2, ?_, ?_⟩
      · rw [if_pos]
        rcases hbt with ⟨_, g⟩ | ⟨_, _, _, _, g⟩
        · exact .inr g
        · exact .inl g
      · rcases hbt with ⟨g1, g2⟩ | ⟨g1, g2, g3, rfl, g4⟩
        · exact .inl ⟨g1, g2⟩
        · exact .inr ⟨g1, g2, g3, g4.symm, fun h => by cases h⟩
    rw [e2, if_neg (by simp; omega)]
    unfold signs
    refine ⟨none, st2, rfl, .inr ⟨hf, rfl, hle4, rfl, fun _ => ?_⟩⟩
    rw [num_split (cl := cl) hV (t := s.trail) (n := nv) (by omega) (by omega) (by omega), hn1, hn2]
end Go.Proofs.Ytapbkoolddnjgaa.Pure
