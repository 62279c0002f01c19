/- What the claim needs of Pc: lemmas and contracts, cut by a program to what is used. -/
import Derived.Test.YtapbkoolddnjgaaQcPAx14
import Derived.Test.YtapbkoolddnjgaaQcPAx2
import Derived.Test.YtapbkoolddnjgaaQcPAx3
import Derived.Test.YtapbkoolddnjgaaQcPAx4
import Derived.Test.YtapbkoolddnjgaaQcPAx5
import Derived.Test.YtapbkoolddnjgaaQcPAx7
import Derived.Test.YtapbkoolddnjgaaQcPq
import Derived.Test.YtapbkoolddnjgaaQcPv
set_option linter.unusedVariables false
set_option linter.unusedSimpArgs false
namespace Go.Proofs.Ytapbkoolddnjgaa.Pure
open Go.RowKit Go.Proofs.Ytapbkoolddnjgaa.PA Go.Proofs.YtapbkoolddnjgaaW.PrintWords Go.Proofs.YtapbkoolddnjgaaW.PrintLast Go.Proofs.Sl
def allM : Nat → List (List Int)
  | 0 => [[]]
  | n + 1 => (allM n).map (fun m => m ++ [0]) ++ (allM n).map (fun m => m ++ [1])
theorem allM_len : ∀ {n : Nat} {m : List Int}, m ∈ allM n → m.length = n
  | 0, m, h => by simp [allM] at h; simp [h]
  | n + 1, m, h => by
    unfold allM at h
    rcases List.mem_append.1 h with h | h <;> obtain ⟨x, hx, rfl⟩ := List.mem_map.1 h <;> simp [allM_len hx]
theorem allM_bit : ∀ {n : Nat} {m : List Int}, m ∈ allM n → ∀ x ∈ m, x = 0 ∨ x = 1
  | 0, m, h, x, hx => by simp [allM] at h; simp [h] at hx
  | n + 1, m, h, x, hx => by
    unfold allM at h
    rcases List.mem_append.1 h with h | h <;> obtain ⟨y, hy, rfl⟩ := List.mem_map.1 h <;> rcases List.mem_append.1 hx with hx | hx
    · exact allM_bit hy x hx
    · exact .inl (by simpa using hx)
    · exact allM_bit hy x hx
    · exact .inr (by simpa using hx)
def cnt (n : Nat) (p : List Int → Bool) : Nat := (allM n).countP p
theorem cnt_succ (n : Nat) (p : List Int → Bool) : cnt (n + 1) p = cnt n (fun m => p (m ++ [0])) + cnt n (fun m => p (m ++ [1])) := by
  unfold cnt
  rw [allM, List.countP_append, List.countP_map, List.countP_map]
  rfl
theorem cnt_congr {n : Nat} {p q : List Int → Bool} (h : ∀ m ∈ allM n, p m = q m) : cnt n p = cnt n q :=
  List.countP_congr (fun m hm => by rw [h m hm])
theorem cnt_split (n : Nat) (p q : List Int → Bool) : cnt n p = cnt n (fun m => p m && q m) + cnt n (fun m => p m && !(q m)) := by
  unfold cnt
  induction allM n with
  | nil => rfl
  | cons m l ih =>
    rw [List.countP_cons, List.countP_cons, List.countP_cons, ih]
    cases p m <;> cases q m <;> simp <;> omega
theorem cnt_zero {n : Nat} {p : List Int → Bool} (h : ∀ m ∈ allM n, p m = false) : cnt n p = 0 := by
  unfold cnt
  exact List.countP_eq_zero.2 (fun m hm => by rw [h m hm]; simp)
theorem cnt_one : ∀ {n : Nat} {m0 : List Int}, m0.length = n → (∀ x ∈ m0, x = 0 ∨ x = 1) → cnt n (fun m => decide (m = m0)) = 1
  | 0, m0, h, _ => by
    obtain rfl : m0 = [] := List.length_eq_zero_iff.1 h
    rfl
  | n + 1, m0, h, hb => by
    rw [cnt_succ]
    obtain ⟨m, x, rfl⟩ : ∃ m x, m0 = m ++ [x] := ⟨m0.dropLast, m0.getLast (by intro e; simp [e] at h), (List.dropLast_concat_getLast _).symm⟩
    have hm : m.length = n := by simpa using h
    have h1 := cnt_one (n := n) (m0 := m) hm (fun y hy => hb y (List.mem_append_left _ hy))
    rcases hb x (by simp) with rfl | rfl
    · have e1 : cnt n (fun y => decide (y ++ [(0 : Int)] = m ++ [0])) = 1 := by
        rw [← h1]
        exact cnt_congr (fun y _ => by simp)
      have e2 : cnt n (fun y => decide (y ++ [(1 : Int)] = m ++ [0])) = 0 := cnt_zero (fun y hy => by
        have hl := allM_len hy
        simp only [decide_eq_false_iff_not]
        intro e
        have := (List.append_inj e (by omega)).2
        simp at this)
      rw [e1, e2]
    · have e1 : cnt n (fun y => decide (y ++ [(1 : Int)] = m ++ [1])) = 1 := by
        rw [← h1]
        exact cnt_congr (fun y _ => by simp)
      have e2 : cnt n (fun y => decide (y ++ [(0 : Int)] = m ++ [1])) = 0 := cnt_zero (fun y hy => by
        have hl := allM_len hy
        simp only [decide_eq_false_iff_not]
        intro e
        have := (List.append_inj e (by omega)).2
        simp at this)
      rw [e1, e2]
def flip (i : Nat) (m : List Int) : List Int := m.set i (1 - m.getD i 0)
theorem flip_append {i : Nat} {m : List Int} (h : i < m.length) (x : Int) : flip i (m ++ [x]) = flip i m ++ [x] := by
  unfold flip
  rw [List.set_append_left _ _ h, List.getD_eq_getElem?_getD, List.getD_eq_getElem?_getD, List.getElem?_append_left h]
theorem cnt_flip : ∀ {n i : Nat} (p : List Int → Bool), i < n → cnt n (fun m => p (flip i m)) = cnt n p
  | n + 1, i, p, hi => by
    rw [cnt_succ, cnt_succ]
    by_cases e : i = n
    · have k1 : cnt n (fun m => p (flip i (m ++ [0]))) = cnt n (fun m => p (m ++ [1])) := cnt_congr (fun m hm => by
        have hl := allM_len hm
        have : flip i (m ++ [0]) = m ++ [1] := by
          unfold flip
          rw [List.set_append_right _ _ (by omega), List.getD_eq_getElem?_getD, List.getElem?_append_right (by omega)]
          simp [hl, e]
        rw [this])
      have k2 : cnt n (fun m => p (flip i (m ++ [1]))) = cnt n (fun m => p (m ++ [0])) := cnt_congr (fun m hm => by
        have hl := allM_len hm
        have : flip i (m ++ [1]) = m ++ [0] := by
          unfold flip
          rw [List.set_append_right _ _ (by omega), List.getD_eq_getElem?_getD, List.getElem?_append_right (by omega)]
          simp [hl, e]
        rw [this])
      rw [k1, k2]; omega
    · have k1 : cnt n (fun m => p (flip i (m ++ [0]))) = cnt n (fun m => p (m ++ [0])) := by
        rw [← cnt_flip (n := n) (i := i) (fun m => p (m ++ [0])) (by omega)]
        exact cnt_congr (fun m hm => by rw [flip_append (by have := allM_len hm; omega)])
      have k2 : cnt n (fun m => p (flip i (m ++ [1]))) = cnt n (fun m => p (m ++ [1])) := by
        rw [← cnt_flip (n := n) (i := i) (fun m => p (m ++ [1])) (by omega)]
        exact cnt_congr (fun m hm => by rw [flip_append (by have := allM_len hm; omega)])
      rw [k1, k2]
theorem litTrue_neg {V : Nat} {m : List Int} (hm : m ∈ allM V) {n : Int} (h0 : n ≠ 0) (h1 : -(V : Int) ≤ n) (h2 : n ≤ V) (hV : V ≤ 1000) : litTrue m (-n) = !(litTrue m n) := by
  have hl := allM_len hm
  unfold litTrue
  have e1 : mx (-n) (wrap64 (- -n)) = mx n (wrap64 (-n)) := by
    have a1 : wrap64 (- -n) = n := by unfold wrap64; omega
    have a2 : wrap64 (-n) = -n := by unfold wrap64; omega
    rw [a1, a2]; unfold mx; split <;> split <;> omega
  rw [e1]
  by_cases hp : n > 0
  · rw [show decide (-n > 0) = false from by simp; omega, show decide (n > 0) = true from by simpa using hp]
    cases (rd m (mx n (wrap64 (-n)) - 1) == 1) <;> rfl
  · rw [show decide (-n > 0) = true from by simp; omega, show decide (n > 0) = false from by simpa using hp]
    cases (rd m (mx n (wrap64 (-n)) - 1) == 1) <;> rfl
def satM (cl : List (List Int)) (m : List Int) : Bool := cl.all (fun c => c.any (litTrue m))
def hasM (t : List Int) (m : List Int) : Bool := t.all (litTrue m)
theorem falseFrom_nil (m : List Int) : ∀ (l : List (List Int)) (i : Nat), ((falseFrom m i l).length = 0) ↔ satM l m = true
  | [], i => by simp [falseFrom, satM]
  | c :: l, i => by
    have := falseFrom_nil m l (i + 1)
    unfold falseFrom satM
    rw [List.all_cons]
    by_cases h : c.any (litTrue m) = true
    · rw [if_pos h, h, Bool.true_and]
      exact this
    · rw [if_neg h]
      simp [h]
theorem der_true {V : Nat} {cl : List (List Int)} (hV : V ≤ 1000) (hcl : ∀ c ∈ cl, ∀ n ∈ c, n ≠ 0 ∧ -(V : Int) ≤ n ∧ n ≤ V) {D : Int → Prop} {m : List Int} (hm : m ∈ allM V) (hs : satM cl m = true) (hD : ∀ n, D n → litTrue m n = true) {n : Int} (h : Der cl D n) : litTrue m n = true := by
  induction h with
  | base h => exact hD _ h
  | @unit c n hc hn _ ih =>
    have := List.all_eq_true.1 hs c hc
    obtain ⟨q, hq, hqt⟩ := List.any_eq_true.1 this
    by_cases e : q = n
    · rw [← e]; exact hqt
    · have := ih q hq e
      obtain ⟨g0, g1, g2⟩ := hcl c hc q hq
      rw [litTrue_neg hm g0 g1 g2 hV, hqt] at this
      simp at this
theorem bad_none {V : Nat} {cl : List (List Int)} (hV : V ≤ 1000) (hcl : ∀ c ∈ cl, ∀ n ∈ c, n ≠ 0 ∧ -(V : Int) ≤ n ∧ n ≤ V) {D : Int → Prop} {m : List Int} (hm : m ∈ allM V) (hD : ∀ n, D n → litTrue m n = true) (h : Bad cl D) : satM cl m = false := by
  cases hs : satM cl m with
  | false => rfl
  | true =>
    obtain ⟨c, hc, hall⟩ := h
    have := List.all_eq_true.1 hs c hc
    obtain ⟨q, hq, hqt⟩ := List.any_eq_true.1 this
    have := der_true hV hcl hm hs hD (hall q hq)
    obtain ⟨g0, g1, g2⟩ := hcl c hc q hq
    rw [litTrue_neg hm g0 g1 g2 hV, hqt] at this
    simp at this
def num (V : Nat) (cl : List (List Int)) (t : List Int) : Nat := cnt V (fun m => satM cl m && hasM t m)
theorem hasM_iff {t m : List Int} : hasM t m = true ↔ ∀ n ∈ t, litTrue m n = true := List.all_eq_true
theorem num_same {V : Nat} {cl : List (List Int)} (hV : V ≤ 1000) (hcl : ∀ c ∈ cl, ∀ n ∈ c, n ≠ 0 ∧ -(V : Int) ≤ n ∧ n ≤ V) {t u : List Int} (h1 : ∀ n ∈ u, Der cl (fun x => x ∈ t) n) (h2 : ∀ n ∈ t, n ∈ u) : num V cl t = num V cl u := by
  refine cnt_congr (fun m hm => ?_)
  cases hs : satM cl m with
  | false => rfl
  | true =>
    rw [Bool.true_and, Bool.true_and, Bool.eq_iff_iff, hasM_iff, hasM_iff]
    exact ⟨fun h n hn => der_true hV hcl hm hs (fun x hx => h x hx) (h1 n hn), fun h n hn => h n (h2 n hn)⟩
theorem num_bad {V : Nat} {cl : List (List Int)} (hV : V ≤ 1000) (hcl : ∀ c ∈ cl, ∀ n ∈ c, n ≠ 0 ∧ -(V : Int) ≤ n ∧ n ≤ V) {t : List Int} (h : Bad cl (fun x => x ∈ t)) : num V cl t = 0 := by
  refine cnt_zero (fun m hm => ?_)
  cases hh : hasM t m with
  | false => simp
  | true => rw [bad_none hV hcl hm (fun x hx => hasM_iff.1 hh x hx) h]; rfl
theorem num_split {V : Nat} {cl : List (List Int)} (hV : V ≤ 1000) {t : List Int} {n : Int} (h0 : n ≠ 0) (h1 : -(V : Int) ≤ n) (h2 : n ≤ V) : num V cl t = num V cl (t ++ [-n]) + num V cl (t ++ [n]) := by
  unfold num
  rw [cnt_split V _ (fun m => litTrue m (-n))]
  congr 1
  · exact cnt_congr (fun m hm => by simp [hasM, Bool.and_assoc])
  · refine cnt_congr (fun m hm => ?_)
    rw [litTrue_neg hm h0 h1 h2 hV]
    simp [hasM, Bool.and_assoc]
def ofTrail (V : Nat) (t : List Int) : List Int := (List.range V).map (fun i => if ((i + 1 : Nat) : Int) ∈ t then 1 else 0)
theorem litTrue_pos {m : List Int} {i : Nat} (h : i < m.length) (hV : m.length ≤ 1000) : litTrue m ((i + 1 : Nat) : Int) = (m[i] == 1) := by
  unfold litTrue
  have e1 : mx ((i + 1 : Nat) : Int) (wrap64 (-((i + 1 : Nat) : Int))) - 1 = (i : Int) := by
    have a2 : wrap64 (-((i + 1 : Nat) : Int)) = -((i + 1 : Nat) : Int) := by unfold wrap64; omega
    rw [a2]; unfold mx; split <;> omega
  rw [e1, show decide (((i + 1 : Nat) : Int) > 0) = true from by simp]
  have : rd m (i : Int) = m[i] := by simp [rd, h]
  rw [this]
  cases (m[i] == 1) <;> rfl
theorem num_full {V : Nat} {cl : List (List Int)} (hV : V ≤ 1000) {t : List Int} (hcl : ∀ c ∈ cl, ∀ n ∈ c, n ≠ 0 ∧ -(V : Int) ≤ n ∧ n ≤ V) (ht : ∀ n ∈ t, n ≠ 0 ∧ -(V : Int) ≤ n ∧ n ≤ V) (hex : ∀ n ∈ t, -n ∉ t) (hfull : ∀ i : Int, 1 ≤ i → i ≤ V → i ∈ t ∨ -i ∈ t) (hc : Closed cl t) : num V cl t = 1 := by
  have hlen : (ofTrail V t).length = V := by simp [ofTrail]
  have hbit : ∀ x ∈ ofTrail V t, x = 0 ∨ x = 1 := by
    intro x hx
    obtain ⟨i, _, rfl⟩ := List.mem_map.1 hx
    split
    · exact .inr rfl
    · exact .inl rfl
  have hget : ∀ i (h : i < (ofTrail V t).length), (ofTrail V t)[i] = if ((i + 1 : Nat) : Int) ∈ t then 1 else 0 := by
    intro i h; simp [ofTrail]
  rw [← cnt_one hlen hbit]
  refine cnt_congr (fun m hm => ?_)
  have hl := allM_len hm
  have hb := allM_bit hm
  rw [Bool.eq_iff_iff, Bool.and_eq_true, hasM_iff, decide_eq_true_eq]
  have key : (∀ n ∈ t, litTrue m n = true) ↔ m = ofTrail V t := by
    constructor
    · intro h
      refine List.ext_getElem (by omega) (fun i hi hj => ?_)
      rw [hget i hj]
      have hp := litTrue_pos (m := m) hi (by omega)
      by_cases e : ((i + 1 : Nat) : Int) ∈ t
      · rw [if_pos e]
        have := h _ e
        rw [hp] at this
        simpa using this
      · rw [if_neg e]
        have e2 : -((i + 1 : Nat) : Int) ∈ t := (hfull ((i + 1 : Nat) : Int) (by omega) (by omega)).resolve_left e
        have := h _ e2
        rw [litTrue_neg hm (by omega) (by omega) (by omega) hV, hp] at this
        rcases hb _ (List.getElem_mem hi) with h0 | h0
        · exact h0
        · rw [h0] at this; simp at this
    · intro h n hn
      obtain ⟨g0, g1, g2⟩ := ht n hn
      by_cases hp : 0 < n
      · obtain ⟨i, rfl⟩ : ∃ i : Nat, n = ((i + 1 : Nat) : Int) := ⟨(n - 1).toNat, by omega⟩
        have hi : i < m.length := by omega
        rw [litTrue_pos hi (by omega)]
        have := hget i (by omega)
        rw [if_pos hn] at this
        have e : m[i] = 1 := by rw [← this]; congr 1
        rw [e]; rfl
      · obtain ⟨i, rfl⟩ : ∃ i : Nat, n = -((i + 1 : Nat) : Int) := ⟨(-n - 1).toNat, by omega⟩
        have hi : i < m.length := by omega
        rw [litTrue_neg hm (by omega) (by omega) (by omega) hV, litTrue_pos hi (by omega)]
        have := hget i (by omega)
        rw [if_neg (fun h2 => hex _ hn (by rw [Int.neg_neg]; exact h2))] at this
        have e : m[i] = 0 := by rw [← this]; congr 1
        rw [e]; rfl
  constructor
  · rintro ⟨_, h⟩
    exact key.1 h
  · intro h
    have h2 := key.2 h
    refine ⟨List.all_eq_true.2 (fun c hcm => ?_), h2⟩
    rcases hc c hcm with ⟨n, hn, hnt⟩ | h3
    · exact List.any_eq_true.2 ⟨n, hn, h2 n hnt⟩
    · exfalso
      have h4 : c.countP (Op t) = 0 := List.countP_eq_zero.2 (fun n hn => by
        obtain ⟨g0, g1, g2⟩ := hcl c hcm n hn
        unfold Op
        by_cases hp : 0 < n
        · rcases hfull n (by omega) g2 with h | h <;> simp [h]
        · rcases hfull (-n) (by omega) (by omega) with h | h
          · simp [h]
          · rw [Int.neg_neg] at h; simp [h])
      omega
theorem count_num : ∀ {k : Nat} {s : Sv} {v : Int}, s.Ok → Listed s.cl s.occ → s.done = s.trail.length → Closed s.cl s.trail → 1 ≤ v → v ≤ s.vars + 1 → s.vars + 1 - v < k → (∀ i : Int, 1 ≤ i → i < v → i ∈ s.trail ∨ -i ∈ s.trail) →
    s.count k v = num s.vars.toNat s.cl s.trail
  | 0, s, v, h, _, _, _, _, h2, h3, _ => by omega
  | k + 1, s, v, h, ho, hd, hc, h1, h2, h3, h4 => by
    have hv0 := h.vars0; have hv1 := h.vars1
    have hVe : ((s.vars.toNat : Nat) : Int) = s.vars := by omega
    have hV : s.vars.toNat ≤ 1000 := by omega
    have hcl : ∀ c ∈ s.cl, ∀ n ∈ c, n ≠ 0 ∧ -((s.vars.toNat : Nat) : Int) ≤ n ∧ n ≤ ((s.vars.toNat : Nat) : Int) := by rw [hVe]; exact h.lits
    have hnx := nextV_spec (s := s) (k := 1002) h1 h2 (by omega)
    have hbefore : ∀ i : Int, 1 ≤ i → i < s.nextV 1002 v → i ∈ s.trail ∨ -i ∈ s.trail := by
      have gen : ∀ (q : Nat) (u : Int), 1 ≤ u → u ≤ s.vars + 1 → s.vars + 1 - u < q → (∀ i : Int, 1 ≤ i → i < u → i ∈ s.trail ∨ -i ∈ s.trail) → ∀ i : Int, 1 ≤ i → i < s.nextV q u → i ∈ s.trail ∨ -i ∈ s.trail := by
        intro q
        induction q with
        | zero => intro u a1 a2 a3; omega
        | succ q ih =>
          intro u a1 a2 a3 a4 i b1 b2
          unfold Sv.nextV at b2
          by_cases hu : u ≤ s.vars
          · rw [if_pos hu] at b2
            by_cases hz : rd s.vals u = 0
            · rw [if_pos hz] at b2
              exact a4 i b1 b2
            · rw [if_neg hz] at b2
              refine ih (u + 1) (by omega) (by omega) (by omega) (fun j c1 c2 => ?_) i b1 b2
              by_cases e : j = u
              · have hl := lit_det h (n := u) ⟨by omega, by omega, hu⟩
                have hlv : litVal s.vals u = rd s.vals u := by unfold litVal; rw [if_neg (by omega)]
                rw [e]
                by_cases g1 : u ∈ s.trail
                · exact .inl g1
                · by_cases g2 : -u ∈ s.trail
                  · exact .inr g2
                  · rw [if_neg g1, if_neg g2, hlv] at hl; exact absurd hl hz
              · exact a4 j c1 (by omega)
          · rw [if_neg hu] at b2
            exact a4 i b1 b2
      exact gen 1002 v h1 h2 (by omega) h4
    unfold Sv.count
    generalize s.nextV 1002 v = nv at hnx hbefore ⊢
    obtain ⟨n1, n2, n3⟩ := hnx
    by_cases hlast : s.vars < nv
    · rw [if_pos hlast]
      have := num_full (cl := s.cl) hV (t := s.trail) hcl (by rw [hVe]; exact h.tlits) (fun n hn => trail_excl h hn) (fun i i1 i2 => hbefore i i1 (by omega)) hc
      rw [this]; rfl
    · rw [if_neg hlast]
      have hz := n3 (by omega)
      obtain ⟨z1, z2⟩ := litVal_zero (s := s) (v := nv) (by omega) hz
      have hr1 : -nv ≠ 0 ∧ -s.vars ≤ -nv ∧ -nv ≤ s.vars := ⟨by omega, by omega, by omega⟩
      have hr2 : nv ≠ 0 ∧ -s.vars ≤ nv ∧ nv ≤ s.vars := ⟨by omega, by omega, by omega⟩
      have branch : ∀ x : Int, (x = nv ∨ x = -nv) → litVal s.vals x = 0 → (x ≠ 0 ∧ -s.vars ≤ x ∧ x ≤ s.vars) →
          (if ((s.assume x (-1)).propagate 1002).1 < 0 then Sv.count k ((s.assume x (-1)).propagate 1002).2 (nv + 1) else 0) = ((num s.vars.toNat s.cl (s.trail ++ [x]) : Nat) : Int) := by
        intro x hx hx0 hxr
        obtain ⟨t1, t2, t3, _, t5⟩ := tried h hd hxr hx0
        obtain ⟨p1, p2, p3⟩ := tried_spec h ho hd hc hxr hx0
        have ha : (s.assume x (-1)).Alike ((s.assume x (-1)).propagate 1002).2 := (Sv.propagate_ok (h.assume hxr hx0)).2
        generalize (s.assume x (-1)).propagate 1002 = r at t1 t2 t5 p1 p2 p3 ha ⊢
        have hD : (fun y => y ∈ s.trail ∨ y = x) = (fun y => y ∈ s.trail ++ [x]) := by
          funext y; simp
        rw [hD] at p1 p3
        obtain ⟨l, hl⟩ := ha.trail
        have hsub : ∀ n ∈ s.trail ++ [x], n ∈ r.2.trail := fun n hn => by rw [hl]; exact List.mem_append_left _ hn
        by_cases hneg : r.1 < 0
        · rw [if_pos hneg]
          have hcl2 : r.2.cl = s.cl := t2.cl
          have hoc2 : r.2.occ = s.occ := t2.occ
          have hva2 : r.2.vars = s.vars := t2.vars
          have := count_num (k := k) (s := r.2) (v := nv + 1) t1 (by rw [hcl2, hoc2]; exact ho) (t5 hneg) (by rw [hcl2]; exact p2 hneg) (by omega) (by rw [hva2]; omega) (by rw [hva2]; omega) (fun i i1 i2 => by
            by_cases e : i = nv
            · rcases hx with rfl | rfl
              · exact .inl (e ▸ hsub _ (by simp))
              · exact .inr (e ▸ hsub _ (by simp))
            · rcases hbefore i i1 (by omega) with g | g
              · exact .inl (hsub _ (List.mem_append_left _ g))
              · exact .inr (hsub _ (List.mem_append_left _ g)))
          rw [this, hva2, hcl2, num_same hV hcl p1 hsub]
        · rw [if_neg hneg, num_bad hV hcl (p3 hneg)]
          rfl
      rw [branch (-nv) (.inr rfl) z2 hr1, branch nv (.inl rfl) z1 hr2]
      have := num_split (cl := s.cl) hV (t := s.trail) (n := nv) (by omega) (by omega) (by omega)
      rw [this]
      simp
theorem countModels_num {V : Int} {cl : List (List Int)} (hok : (checkFormula V cl).2 = 0) (h16 : V ≤ 16) : countModels V cl = (((num V.toNat cl [] : Nat) : Int), 0) := by
  obtain ⟨g1, g2, g3, g4, g5⟩ := formula_sv (fuel := 0) hok
  unfold countModels
  rw [if_pos hok, if_pos h16]
  have hL : Listed (newSv V cl 0).cl (newSv V cl 0).occ := listed_new cl
  obtain ⟨b1, b2, b3⟩ := begin_spec (s := newSv V cl 0) g1 hL rfl rfl
  obtain ⟨k1, k2⟩ := Sv.begin_ok g1
  have hdone : (newSv V cl 0).begin.1 < 0 → (newSv V cl 0).begin.2.done = (newSv V cl 0).begin.2.trail.length := fun hl => beginFrom_done g1 (by omega) hl
  have hVe : ((V.toNat : Nat) : Int) = V := by omega
  have hcl : ∀ c ∈ cl, ∀ n ∈ c, n ≠ 0 ∧ -((V.toNat : Nat) : Int) ≤ n ∧ n ≤ ((V.toNat : Nat) : Int) := by rw [hVe]; exact g1.lits
  have e1 : (newSv V cl 0).cl = cl := rfl
  have e2 : (newSv V cl 0).vars = V := rfl
  rw [e1] at b1 b2 b3 hL
  generalize (newSv V cl 0).begin = r at b1 b2 b3 k1 k2 hdone ⊢
  by_cases hneg : r.1 < 0
  · rw [if_neg (by omega)]
    have := count_num (k := 18) (s := r.2) (v := 1) k1 (by rw [k2.cl, k2.occ]; exact hL) (hdone hneg) (by rw [k2.cl]; exact b2 hneg) (by omega) (by rw [k2.vars, e2]; omega) (by rw [k2.vars, e2]; omega) (fun i i1 i2 => by omega)
    rw [this, k2.vars, k2.cl, e1, e2]
    rw [num_same (t := []) (u := r.2.trail) (by omega) hcl (fun n hn => (b1 n hn).mono (fun _ h => h.elim)) (by simp)]
  · rw [if_pos (by omega)]
    have := num_bad (V := V.toNat) (t := []) (by omega) hcl (by
      obtain ⟨c, hc, h⟩ := b3 hneg
      exact ⟨c, hc, fun n hn => (h n hn).mono (fun _ h => h.elim)⟩)
    rw [this]
    rfl
end Go.Proofs.Ytapbkoolddnjgaa.Pure
