/- What the claim needs of Pc: lemmas and contracts, cut by a program to what is used. -/
import Derived.Test.YtapbkoolddnjgaaQfPAx14
import Derived.Test.YtapbkoolddnjgaaQfPAx2
import Derived.Test.YtapbkoolddnjgaaQfPAx3
import Derived.Test.YtapbkoolddnjgaaQfPAx4
import Derived.Test.YtapbkoolddnjgaaQfPAx5
import Derived.Test.YtapbkoolddnjgaaQfPAx7
import Derived.Test.YtapbkoolddnjgaaQfPq
import Derived.Test.YtapbkoolddnjgaaQfPv
set_option linter.unusedVariables false
set_option linter.unusedSimpArgs false
namespace Go.Proofs.Ytapbkoolddnjgaa.Pure
open Go.RowKit Go.Proofs.Ytapbkoolddnjgaa.PA Go.Proofs.YtapbkoolddnjgaaW.PrintWords Go.Proofs.YtapbkoolddnjgaaW.PrintLast Go.Proofs.Sl
def allM : Nat → List (List Int)
  | 0 => [[]]
  | n + 1 => (allM n).map (fun m => m ++ [0]) ++ (allM n).map (fun m => m ++ [1])
theorem allM_len : ∀ {n : Nat} {m : List Int}, m ∈ allM n → m.length = n
  | 0, m, h => by simp [allM] at h; simp [h]
  | n + 1, m, h => by
    unfold allM at h
    rcases List.mem_append.1 h with h | h <;> obtain ⟨x, hx, rfl⟩ := List.mem_map.1 h <;> simp [allM_len hx]
theorem allM_bit : ∀ {n : Nat} {m : List Int}, m ∈ allM n → ∀ x ∈ m, x = 0 ∨ x = 1
  | 0, m, h, x, hx => by simp [allM] at h; simp [h] at hx
  | n + 1, m, h, x, hx => by
    unfold allM at h
    rcases List.mem_append.1 h with h | h <;> obtain ⟨y, hy, rfl⟩ := List.mem_map.1 h <;> rcases List.mem_append.1 hx with hx | hx
    · exact allM_bit hy x hx
    · exact .inl (by simpa using hx)
    · exact allM_bit hy x hx
    · exact .inr (by simpa using hx)
def cnt (n : Nat) (p : List Int → Bool) : Nat := (allM n).countP p
theorem cnt_congr {n : Nat} {p q : List Int → Bool} (h : ∀ m ∈ allM n, p m = q m) : cnt n p = cnt n q :=
  List.countP_congr (fun m hm => by rw [h m hm])
theorem cnt_split (n : Nat) (p q : List Int → Bool) : cnt n p = cnt n (fun m => p m && q m) + cnt n (fun m => p m && !(q m)) := by
  unfold cnt
  induction allM n with
  | nil => rfl
  | cons m l ih =>
    rw [List.countP_cons, List.countP_cons, List.countP_cons, ih]
    cases p m <;> cases q m <;> simp <;> omega
theorem cnt_zero {n : Nat} {p : List Int → Bool} (h : ∀ m ∈ allM n, p m = false) : cnt n p = 0 := by
  unfold cnt
  exact List.countP_eq_zero.2 (fun m hm => by rw [h m hm]; simp)
theorem litTrue_neg {V : Nat} {m : List Int} (hm : m ∈ allM V) {n : Int} (h0 : n ≠ 0) (h1 : -(V : Int) ≤ n) (h2 : n ≤ V) (hV : V ≤ 1000) : litTrue m (-n) = !(litTrue m n) := by
  have hl := allM_len hm
  unfold litTrue
  have e1 : mx (-n) (wrap64 (- -n)) = mx n (wrap64 (-n)) := by
    have a1 : wrap64 (- -n) = n := by unfold wrap64; omega
    have a2 : wrap64 (-n) = -n := by unfold wrap64; omega
    rw [a1, a2]; unfold mx; split <;> split <;> omega
  rw [e1]
  by_cases hp : n > 0
  · rw [show decide (-n > 0) = false from by simp; omega, show decide (n > 0) = true from by simpa using hp]
    cases (rd m (mx n (wrap64 (-n)) - 1) == 1) <;> rfl
  · rw [show decide (-n > 0) = true from by simp; omega, show decide (n > 0) = false from by simpa using hp]
    cases (rd m (mx n (wrap64 (-n)) - 1) == 1) <;> rfl
def satM (cl : List (List Int)) (m : List Int) : Bool := cl.all (fun c => c.any (litTrue m))
def hasM (t : List Int) (m : List Int) : Bool := t.all (litTrue m)
theorem falseFrom_nil (m : List Int) : ∀ (l : List (List Int)) (i : Nat), ((falseFrom m i l).length = 0) ↔ satM l m = true
  | [], i => by simp [falseFrom, satM]
  | c :: l, i => by
    have := falseFrom_nil m l (i + 1)
    unfold falseFrom satM
    rw [List.all_cons]
    by_cases h : c.any (litTrue m) = true
    · rw [if_pos h, h, Bool.true_and]
      exact this
    · rw [if_neg h]
      simp [h]
theorem der_true {V : Nat} {cl : List (List Int)} (hV : V ≤ 1000) (hcl : ∀ c ∈ cl, ∀ n ∈ c, n ≠ 0 ∧ -(V : Int) ≤ n ∧ n ≤ V) {D : Int → Prop} {m : List Int} (hm : m ∈ allM V) (hs : satM cl m = true) (hD : ∀ n, D n → litTrue m n = true) {n : Int} (h : Der cl D n) : litTrue m n = true := by
  induction h with
  | base h => exact hD _ h
  | @unit c n hc hn _ ih =>
    have := List.all_eq_true.1 hs c hc
    obtain ⟨q, hq, hqt⟩ := List.any_eq_true.1 this
    by_cases e : q = n
    · rw [← e]; exact hqt
    · have := ih q hq e
      obtain ⟨g0, g1, g2⟩ := hcl c hc q hq
      rw [litTrue_neg hm g0 g1 g2 hV, hqt] at this
      simp at this
theorem bad_none {V : Nat} {cl : List (List Int)} (hV : V ≤ 1000) (hcl : ∀ c ∈ cl, ∀ n ∈ c, n ≠ 0 ∧ -(V : Int) ≤ n ∧ n ≤ V) {D : Int → Prop} {m : List Int} (hm : m ∈ allM V) (hD : ∀ n, D n → litTrue m n = true) (h : Bad cl D) : satM cl m = false := by
  cases hs : satM cl m with
  | false => rfl
  | true =>
    obtain ⟨c, hc, hall⟩ := h
    have := List.all_eq_true.1 hs c hc
    obtain ⟨q, hq, hqt⟩ := List.any_eq_true.1 this
    have := der_true hV hcl hm hs hD (hall q hq)
    obtain ⟨g0, g1, g2⟩ := hcl c hc q hq
    rw [litTrue_neg hm g0 g1 g2 hV, hqt] at this
    simp at this
def num (V : Nat) (cl : List (List Int)) (t : List Int) : Nat := cnt V (fun m => satM cl m && hasM t m)
theorem hasM_iff {t m : List Int} : hasM t m = true ↔ ∀ n ∈ t, litTrue m n = true := List.all_eq_true
theorem num_same {V : Nat} {cl : List (List Int)} (hV : V ≤ 1000) (hcl : ∀ c ∈ cl, ∀ n ∈ c, n ≠ 0 ∧ -(V : Int) ≤ n ∧ n ≤ V) {t u : List Int} (h1 : ∀ n ∈ u, Der cl (fun x => x ∈ t) n) (h2 : ∀ n ∈ t, n ∈ u) : num V cl t = num V cl u := by
  refine cnt_congr (fun m hm => ?_)
  cases hs : satM cl m with
  | false => rfl
  | true =>
    rw [Bool.true_and, Bool.true_and, Bool.eq_iff_iff, hasM_iff, hasM_iff]
    exact ⟨fun h n hn => der_true hV hcl hm hs (fun x hx => h x hx) (h1 n hn), fun h n hn => h n (h2 n hn)⟩
theorem num_bad {V : Nat} {cl : List (List Int)} (hV : V ≤ 1000) (hcl : ∀ c ∈ cl, ∀ n ∈ c, n ≠ 0 ∧ -(V : Int) ≤ n ∧ n ≤ V) {t : List Int} (h : Bad cl (fun x => x ∈ t)) : num V cl t = 0 := by
  refine cnt_zero (fun m hm => ?_)
  cases hh : hasM t m with
  | false => simp
  | true => rw [bad_none hV hcl hm (fun x hx => hasM_iff.1 hh x hx) h]; rfl
theorem num_split {V : Nat} {cl : List (List Int)} (hV : V ≤ 1000) {t : List Int} {n : Int} (h0 : n ≠ 0) (h1 : -(V : Int) ≤ n) (h2 : n ≤ V) : num V cl t = num V cl (t ++ [-n]) + num V cl (t ++ [n]) := by
  unfold num
  rw [cnt_split V _ (fun m => litTrue m (-n))]
  congr 1
  · exact cnt_congr (fun m hm => by simp [hasM, Bool.and_assoc])
  · refine cnt_congr (fun m hm => ?_)
    rw [litTrue_neg hm h0 h1 h2 hV]
    simp [hasM, Bool.and_assoc]
end Go.Proofs.Ytapbkoolddnjgaa.Pure
