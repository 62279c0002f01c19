/- What the claim needs of PAx11: lemmas and contracts, cut by a program to what is used. -/
import Derived.Test.YtapbkoolddnjgaaQfPAx0
import Derived.Test.YtapbkoolddnjgaaQfPAx1
import Derived.Test.YtapbkoolddnjgaaQfPAx2
import Derived.Test.YtapbkoolddnjgaaQfPAx3
import Derived.Test.YtapbkoolddnjgaaQfPAx5
import Derived.Test.YtapbkoolddnjgaaQfPAx7
import Derived.Test.YtapbkoolddnjgaaQfPAx8
import Derived.Test.YtapbkoolddnjgaaQfPAx10
namespace Go.Proofs.Ytapbkoolddnjgaa.PA
open Go.RowKit Go.Proofs.YtapbkoolddnjgaaW.PrintWords Go.Proofs.YtapbkoolddnjgaaW.PrintLast Go.Proofs.YtapbkoolddnjgaaW.PrintMore Go.Proofs.Sl
attribute [local go_sem] max2_int min2_int max_two min_two max_three min_three max_four min_four
set_option linter.unusedVariables false
set_option linter.unusedSimpArgs false
theorem fuelErr_f (a : Int) : cnf_fuelErr.f a = some (if 0 ≤ a ∧ a ≤ 20000 then 0 else 2) := by
  unfold cnf_fuelErr.f
  rw [within_dec]
  simp only [Option.bind_some, unless_dec, decide_eq_true_eq]
def searchedErr (vars : Int) (L : List (List Int)) (fuel : Int) : Int := if (checkFormula vars L).2 = 0 then (if 0 ≤ fuel ∧ fuel ≤ 20000 then 0 else 2) else (checkFormula vars L).2
theorem solve_res {s : Sv} (hok : s.Ok) (hf : s.failed = false) (hs : s.steps ≤ s.fuel) : s.solve.2.Ok ∧ s.solve.2.vars = s.vars := by
  unfold Sv.solve
  obtain ⟨k1, k2⟩ := Sv.begin_ok hok
  split
  · exact ⟨k1, k2.vars⟩
  · rename_i hn
    have hbd : s.begin.2.done = s.begin.2.trail.length := beginFrom_done hok (by omega) (Int.not_le.1 hn)
    have := search_spec (k := 1002) (v := 1) k1 hbd (k2.failed.trans hf) (by rw [k2.steps, k2.fuel]; exact hs) (by omega) (by have := k1.vars0; omega) (by have := k1.vars1; omega)
    exact ⟨this.ok, this.vars.trans k2.vars⟩
set_option maxHeartbeats 4000000 in
set_option maxRecDepth 100000 in
theorem searched64 (a0_0 : Int) (A0_1 : Option Addr) (c0_1 : Nat) (l0_1 : List (List Int)) (fuel : Int) (w : World) (hr0_1 : Kd.C (Kd.slice 3 (Kd.int .i64)) w A0_1 l0_1.length l0_1) (hc0_1 : l0_1.length ≤ c0_1) :
    Calls Try.prog 64 #[.agg #[.int .i64 a0_0, .slice A0_1 l0_1.length c0_1], .int .i64 fuel] w fun e w' => Below w.heap.size w w' ∧
      ((searchedErr a0_0 l0_1 fuel ≠ 0 ∧ e = .returned (.tuple #[.pointer none, .bool false, .int .i64 (searchedErr a0_0 l0_1 fuel)])) ∨
       (searchedErr a0_0 l0_1 fuel = 0 ∧ ∃ g fx, e = .returned (.tuple #[.pointer (some ⟨g, 0, none⟩), .bool (newSv a0_0 l0_1 fuel).solve.1, .int .i64 (if (newSv a0_0 l0_1 fuel).solve.2.failed = true then 28 else 0)]) ∧ Below w.heap.size w fx.w0 ∧ IsSv fx w' g (newSv a0_0 l0_1 fuel).solve.2 [])) := by
  have HR := Ak hr0_1
  have H0 := Ak ((St.start w).box_new 24 #[.int .i64 a0_0, .slice A0_1 l0_1.length c0_1])
  clear hr0_1
  have hu24 := Try.underlying24
  obtain ⟨e1, he1⟩ : ∃ e1 : Int, e1 = (checkFormula a0_0 l0_1).2 := ⟨_, rfl⟩
  obtain ⟨e2, he2⟩ : ∃ e2 : Int, e2 = if 0 ≤ fuel ∧ fuel ≤ 20000 then 0 else 2 := ⟨_, rfl⟩
  obtain ⟨e3, he3⟩ : ∃ e3 : Int, e3 = if e1 = 0 then e2 else e1 := ⟨_, rfl⟩
  have hE : searchedErr a0_0 l0_1 fuel = e3 := by unfold searchedErr; rw [he3, he1, he2]
  have E1 := Ak he1; have E2 := Ak he2; have E3 := Ak he3
  rw [hE]
  generalize hsv : (newSv a0_0 l0_1 fuel).solve = sv
  generalize hfc : (if sv.2.failed = true then (28 : Int) else 0) = fc
  have HSV := Ak hsv; have HFC := Ak hfc
  clear he1 he2 he3 hE hsv hfc
  go_enter Try.func64, Try.ntmps64
  have q0 := H0.out.box_cell (i := 0) rfl 0
  have q1 := H0.out.box_cell (i := 0) rfl 1
  simp only [List.getElem?_toArray, List.getElem?_cons_zero, List.getElem?_cons_succ] at q0 q1
  go_wp2_with fail
  refine (cnf_formulaErr.calls a0_0 A0_1 c0_1 l0_1 e1 _ (Kd.C_below HR.out H0.out.below) hc0_1 (by rw [formulaErr_f, E1.out])).mono ?_
  clear q0 q1
  rintro e w1 ⟨rfl, hb⟩
  have H1 := Ak (H0.out.mv hb); clear hb H0
  go_wp2_with fail
  refine (cnf_fuelErr.calls fuel e2 _ (by rw [fuelErr_f, E2.out])).mono ?_
  rintro e w2 ⟨rfl, hb⟩
  have H2 := Ak (H1.out.mv hb.below); clear hb H1
  go_wp2_with fail
  have H3 := Ak (H2.out.box_new 28 #[.int .i64 e1, .int .i64 e2]); clear H2
  refine (cnf_first.calls 3 _ 2 [e1, e2] e3 _ (C_of_block (k := .i64) (H3.out.box_at (i := 0) rfl).1 (by simp)) (by simp) (by rw [first2, E3.out])).mono ?_
  rintro e w4 ⟨rfl, hb⟩
  have H4 := Ak ((H3.out.mv hb.below).drop 0); clear hb H3
  have hc0 := H4.out.box_cell (i := 0) rfl 0
  have hc1 := H4.out.box_cell (i := 0) rfl 1
  simp only [List.eraseIdx, List.getElem?_toArray, List.getElem?_cons_zero, List.getElem?_cons_succ] at hc0 hc1
  by_cases he : e3 = 0
  · have he0 : (e3 != 0) = false := bne_eq_false_iff_eq.2 he
    have h1 : e1 = 0 := by
      have := E3.out; rw [he] at this
      by_cases h : e1 = 0
      · exact h
      · rw [if_neg h] at this; exact this.symm
    have h2 : 0 ≤ fuel ∧ fuel ≤ 20000 := by
      have := E3.out; rw [he, if_pos h1, E2.out] at this
      by_cases h : 0 ≤ fuel ∧ fuel ≤ 20000
      · exact h
      · rw [if_neg h] at this; cases this
    obtain ⟨g1, g2, g3, g4, g5⟩ := formula_sv (fuel := fuel) (E1.out ▸ h1 : (checkFormula a0_0 l0_1).2 = 0)
    have G1 := Ak g1
    have HE := Ak he
    clear g1 he
    go_wp2_with fail
    refine (newSolver51 a0_0 fuel A0_1 c0_1 l0_1 _ (Kd.C_below HR.out H4.out.below) hc0_1 g2 g3 ⟨g4, g5⟩).mono ?_
    clear hc0 hc1
    rintro e w8 ⟨g, fx, rfl, hw0, hS, hfx⟩
    have hs0 : fx.Ok (newSv a0_0 l0_1 fuel).cl (newSv a0_0 l0_1 fuel).occ := hfx
    have hf0 : (newSv a0_0 l0_1 fuel).failed = false := rfl
    have hst : (newSv a0_0 l0_1 fuel).steps = 0 := rfl
    have hfu : (newSv a0_0 l0_1 fuel).fuel = fuel := rfl
    have G1 := G1.out
    have hsv := HSV.out
    clear HSV
    generalize newSv a0_0 l0_1 fuel = s0 at hS hs0 hf0 hst hfu G1 hsv
    have HS := Ak hS; have HF := Ak hs0; have HO := Ak G1
    have HB1 := Ak H4.out.below
    subst hw0
    clear hS hs0 G1 hfx H4
    go_wp2_with fail
    refine (solve52 s0 fx g _ [] HS.out HO.out HF.out hf0 ⟨by omega, by omega, by omega⟩).mono ?_
    rintro e w9 ⟨c, rfl, hS⟩
    have hB : Aside0 (Below w.heap.size w w9) := by obtain ⟨_, _, _, h⟩ := hS; exact ⟨below_step HB1.out h.below⟩
    rw [hsv] at hS ⊢
    clear hsv
    obtain ⟨vV, tV, rV, hS'⟩ := hS
    simp only [SvL, List.cons_append, List.nil_append] at hS'
    have c11 := hS'.box_cell (i := 0) rfl 11
    simp only [List.getElem?_toArray, List.getElem?_cons_zero, List.getElem?_cons_succ] at c11
    have HS2 : Aside0 (IsSv fx w9 g sv.2 []) := ⟨_, _, _, hS'⟩
    clear hS' HS
    have hfc := HFC.out
    generalize hrf : sv.2.failed = rf at c11 hfc
    clear hrf HFC
    have HFC := Ak hfc; clear hfc
    go_wp2_with fail
    refine (cnf_unless.calls (!rf) 28 fc _ (by rw [unless_dec, ← HFC.out]; cases rf <;> rfl)).mono ?_
    clear c11
    rintro e w10 ⟨rfl, hb⟩
    have HB3 := Ak (below_step hB.out hb.below)
    have HS3 : Aside0 (IsSv fx w10 g sv.2 []) := by obtain ⟨a, b, c, h⟩ := HS2.out; exact ⟨a, b, c, h.mv hb.below⟩
    clear hb HS2
    go_wp2
    go_ret3
    first | exact ⟨HB3.out, .inr ⟨HE.out, g, fx, rfl, HB1.out, HS3.out⟩⟩ | exact ⟨HB3.out, .inr ⟨HE.out, g, rfl, fx, HB1.out, HS3.out⟩⟩ | exact ⟨HB3.out, .inr ⟨HE.out, g, ⟨fx, rfl, HB1.out, HS3.out⟩⟩⟩ | exact ⟨HB3.out, .inr ⟨HE.out, g, rfl, fx, ⟨HB1.out, HS3.out⟩⟩⟩
  · have he0 : (e3 != 0) = true := bne_iff_ne.2 he
    have HE := Ak he
    clear he
    go_wp2
    go_ret3
    exact ⟨H4.out.below, .inl ⟨HE.out, rfl⟩⟩
theorem _root_.Go.Proofs.Sl.St.row_cells {w0 w : World} {L : List Asn} {B : Nat} {k : IntKind} {e : TypeId} {v : Value} {xs : List Int} (h : St w0 w L) {i : Nat} (hi : L[i]? = some (row B (Kd.int k) e v xs)) (hp : 0 < xs.length) :
    ∃ g c, v = .slice (some ⟨g, 0, none⟩) xs.length c ∧ ∀ j : Int, 0 ≤ j → j < xs.length → w.cell? ⟨g, j.toNat, none⟩ = some (.int k (rd xs j)) := by
  obtain ⟨F, hF, _⟩ := h.holds hi
  obtain ⟨g, c, he, _⟩ := Kd.R_form hF.1 hp
  subst he
  exact ⟨g, c, rfl, fun j h0 h1 => (Kd.R_cell (enc := Value.int k) 0 hF.1 j h0 h1).1⟩
theorem _root_.Go.Proofs.Sl.St.row_cell_n {w0 w : World} {L : List Asn} {k : IntKind} {e : TypeId} {g n c : Nat} {xs : List Int} (h : St w0 w L) {i : Nat} (hi : L[i]? = some (row w0.heap.size (Kd.int k) e (.slice (some ⟨g, 0, none⟩) n c) xs)) (hn : n = xs.length) (j : Int) (h0 : 0 ≤ j) (h1 : j < n) :
    w.cell? ⟨g, j.toNat, none⟩ = some (.int k (rd xs j)) ∧ w.frozen? ⟨g, j.toNat, none⟩ = false := by
  subst hn
  exact h.row_cell hi j h0 h1
theorem _root_.Go.Proofs.Sl.St.row_set_n {w0 w : World} {L : List Asn} {k : IntKind} {e : TypeId} {g n c : Nat} {xs : List Int} (h : St w0 w L) {i : Nat} (hi : L[i]? = some (row w0.heap.size (Kd.int k) e (.slice (some ⟨g, 0, none⟩) n c) xs)) (hn : n = xs.length) (j : Int) (x : Int) :
    St w0 (w.setCell ⟨g, j.toNat, none⟩ (.int k x)) (L.set i (row w0.heap.size (Kd.int k) e (.slice (some ⟨g, 0, none⟩) n c) (xs.set j.toNat x))) := by
  subst hn
  exact h.row_set hi j x
def modelOf (vals : List Int) (vars : Int) : List Int := (List.range vars.toNat).map fun (i : Nat) => if rd vals ((i : Int) + 1) > 0 then 1 else 0
def modelTo (vals : List Int) (n i : Nat) : List Int := (List.range n).map fun j : Nat => if j < i then (if rd vals ((j : Int) + 1) > 0 then 1 else 0) else 0
theorem modelTo_len (vals : List Int) (n i : Nat) : (modelTo vals n i).length = n := by unfold modelTo; simp
theorem modelTo_get {vals : List Int} {n i j : Nat} (h : j < (modelTo vals n i).length) : (modelTo vals n i)[j] = if j < i then (if rd vals ((j : Int) + 1) > 0 then 1 else 0) else 0 := by simp [modelTo]
theorem modelTo_zero (vals : List Int) (n : Nat) : modelTo vals n 0 = List.replicate n 0 := by
  unfold modelTo
  refine List.ext_getElem (by simp) (fun i h1 h2 => ?_)
  simp
theorem modelTo_all (vals : List Int) (vars : Int) : modelTo vals vars.toNat vars.toNat = modelOf vals vars := by
  unfold modelTo modelOf
  refine List.map_congr_left (fun j hj => ?_)
  rw [if_pos (List.mem_range.1 hj)]
theorem modelTo_skip {vals : List Int} {n i : Nat} (h : ¬ rd vals ((i : Int) + 1) > 0) : modelTo vals n (i + 1) = modelTo vals n i := by
  unfold modelTo
  refine List.map_congr_left (fun j _ => ?_)
  by_cases hj : j < i
  · rw [if_pos hj, if_pos (show j < i + 1 by omega)]
  · by_cases he : j = i
    · subst he; rw [if_pos (show j < j + 1 by omega), if_neg h, if_neg hj]
    · rw [if_neg hj, if_neg (show ¬ j < i + 1 by omega)]
theorem modelTo_set {vals : List Int} {n i : Nat} (h : rd vals ((i : Int) + 1) > 0) : (modelTo vals n i).set i 1 = modelTo vals n (i + 1) := by
  refine List.ext_getElem (by simp [modelTo]) (fun j h1 h2 => ?_)
  rw [List.getElem_set, modelTo_get, modelTo_get]
  by_cases he : i = j
  · subst he; rw [if_pos rfl, if_pos (show i < i + 1 by omega), if_pos h]
  · rw [if_neg he]
    by_cases hj : j < i
    · rw [if_pos hj, if_pos (show j < i + 1 by omega)]
    · rw [if_neg hj, if_neg (show ¬ j < i + 1 by omega)]
def firstModel (vars : Int) (L : List (List Int)) (fuel : Int) : List Int × Int :=
  if searchedErr vars L fuel = 0 then (if (newSv vars L fuel).solve.2.failed = true then ([], 28) else if (newSv vars L fuel).solve.1 = true then (modelOf (newSv vars L fuel).solve.2.vals vars, 0) else ([], 12)) else ([], searchedErr vars L fuel)
def cnf_FirstModel.f (a0_0 : Int) (l0_1 : List (List Int)) (a1 : Int) : Option (List Int × Int) := some (firstModel a0_0 l0_1 a1)
set_option maxHeartbeats 8000000 in
set_option maxRecDepth 100000 in
theorem cnf_FirstModel.calls (a0_0 : Int) (A0_1 : Option Addr) (c0_1 : Nat) (l0_1 : List (List Int)) (a1 : Int) (r1 : List Int) (r2 : Int) (w : World) (hr0_1 : Kd.C (Kd.slice 3 (Kd.int .i64)) w A0_1 l0_1.length l0_1) (hc0_1 : l0_1.length ≤ c0_1) (h : cnf_FirstModel.f a0_0 l0_1 a1 = some (r1, r2)) :
    Calls Try.prog 33 #[.agg #[.int .i64 a0_0, .slice A0_1 l0_1.length c0_1], .int .i64 a1] w fun e w' => ∃ v0_ : Value, e = .returned (.tuple #[v0_, .int .i64 r2]) ∧ Kd.R (Kd.int .i64) 3 w' w.heap.size (fun _ => True) v0_ r1 ∧ Below w.heap.size w w' := by
  have hE : firstModel a0_0 l0_1 a1 = (r1, r2) := Option.some.inj h
  clear h
  have hu24 := Try.underlying24
  have hu82 := Try.underlying82
  unfold firstModel at hE
  have HE := Ak hE; clear hE
  have HR := Ak hr0_1
  have H0 := Ak ((St.start w).box_new 24 #[.int .i64 a0_0, .slice A0_1 l0_1.length c0_1])
  clear hr0_1
  have q0 := H0.out.box_cell (i := 0) rfl 0
  have q1 := H0.out.box_cell (i := 0) rfl 1
  simp only [List.getElem?_toArray, List.getElem?_cons_zero, List.getElem?_cons_succ] at q0 q1
  go_enter Try.func33, Try.ntmps33
  go_wp2_with fail
  refine (searched64 a0_0 A0_1 c0_1 l0_1 a1 _ (Kd.C_below HR.out H0.out.below) hc0_1).mono ?_
  clear q0 q1
  rintro e w1 ⟨hb, h⟩
  have hx := HE.out
  rcases h with ⟨hne, rfl⟩ | ⟨he, g, fx, rfl, hb2, hS⟩
  · rw [if_neg hne] at hx
    obtain ⟨rfl, hx2⟩ := Prod.mk.inj hx
    have HX2 := Ak hx2
    have HNE := Ak hne
    have H1 := Ak (H0.out.mv hb); clear hb H0 hx HE hne hx2
    generalize searchedErr a0_0 l0_1 a1 = e0 at HNE HX2 ⊢
    go_wp2_with fail
    refine (cnf_unless.calls false 12 12 _ rfl).mono ?_
    rintro e w2 ⟨rfl, hb⟩
    have H2 := Ak (H1.out.mv hb.below); clear hb H1
    go_wp2_with fail
    have H3 := Ak (H2.out.box_new 28 #[.int .i64 e0, .int .i64 12]); clear H2
    refine (cnf_first.calls 3 _ 2 [e0, 12] e0 _ (C_of_block (k := .i64) (H3.out.box_at (i := 0) rfl).1 (by simp)) (by simp) (by rw [first2, if_neg HNE.out])).mono ?_
    rintro e w4 ⟨rfl, hb⟩
    have H4 := Ak ((H3.out.mv hb.below).drop 0); clear hb H3
    have he0 : (e0 != 0) = true := bne_iff_ne.2 HNE.out
    go_wp2
    go_ret2
    exact ⟨_, by rw [← HX2.out]; rfl, Kd.R_nil _ _ _ _ _, H4.out.below⟩
  · rw [if_pos he] at hx
    obtain ⟨vV, tV, rV, hS'⟩ := hS
    have h1 : St w w1 (SvL fx g vV tV rV (newSv a0_0 l0_1 a1).solve.2 ++ [] ++ [box w.heap.size 24 #[.int .i64 a0_0, .slice A0_1 l0_1.length c0_1]]) := (H0.out.mv hb2).trans hS'
    simp only [SvL, List.append_nil, List.cons_append, List.nil_append] at h1
    have hok : (newSv a0_0 l0_1 a1).solve.2.Ok ∧ (newSv a0_0 l0_1 a1).solve.2.vars = a0_0 := by
      unfold searchedErr at he
      have h2 : (checkFormula a0_0 l0_1).2 = 0 := by
        by_cases h : (checkFormula a0_0 l0_1).2 = 0
        · exact h
        · rw [if_neg h] at he; exact absurd he h
      have h3 : 0 ≤ a1 ∧ a1 ≤ 20000 := by
        rw [if_pos h2] at he
        by_cases h : 0 ≤ a1 ∧ a1 ≤ 20000
        · exact h
        · rw [if_neg h] at he; cases he
      exact solve_res (formula_sv h2).1 rfl (show (0 : Int) ≤ a1 from h3.1)
    have H1 := Ak h1
    clear h1 hS' he hb hb2 H0 HE
    dsimp only
    generalize (newSv a0_0 l0_1 a1).solve = sv at H1 hx hok ⊢
    obtain ⟨found, s1⟩ := sv
    dsimp only at H1 hx hok ⊢
    obtain ⟨hok, hvars⟩ := hok
    obtain ⟨e1, he1⟩ : ∃ e1 : Int, e1 = if s1.failed = true then (28 : Int) else 0 := ⟨_, rfl⟩
    obtain ⟨e2, he2⟩ : ∃ e2 : Int, e2 = if found = true then (0 : Int) else 12 := ⟨_, rfl⟩
    obtain ⟨e3, he3⟩ : ∃ e3 : Int, e3 = if e1 = 0 then e2 else e1 := ⟨_, rfl⟩
    rw [← he1]
    have HO := Ak hok; have HX := Ak hx; have E3 := Ak he3; have E1 := Ak he1; have E2 := Ak he2
    clear hok hx he3 he1 he2
    go_wp2_with fail
    refine (cnf_unless.calls found 12 e2 _ (by rw [unless_dec, E2.out])).mono ?_
    rintro e w2 ⟨rfl, hb⟩
    have H2 := Ak (H1.out.mv hb.below); clear hb H1
    go_wp2_with fail
    have H3 := Ak (H2.out.box_new 28 #[.int .i64 e1, .int .i64 e2]); clear H2
    refine (cnf_first.calls 3 _ 2 [e1, e2] e3 _ (C_of_block (k := .i64) (H3.out.box_at (i := 0) rfl).1 (by simp)) (by simp) (by rw [first2, E3.out])).mono ?_
    rintro e w4 ⟨rfl, hb⟩
    have H4 := Ak ((H3.out.mv hb.below).drop 0); clear hb H3
    simp only [List.eraseIdx] at H4
    by_cases he : e3 = 0
    · have he0 : (e3 != 0) = false := bne_eq_false_iff_eq.2 he
      have h1 : e1 = 0 := by
        have := E3.out; rw [he] at this
        by_cases h : e1 = 0
        · exact h
        · rw [if_neg h] at this; exact this.symm
      have hfl : s1.failed = false := by
        have := E1.out
        cases hh : s1.failed
        · rfl
        · rw [hh, h1] at this; simp at this
      have hfo : found = true := by
        have := E3.out; rw [he, if_pos h1, E2.out] at this
        cases found
        · simp at this
        · rfl
      have hx := HX.out
      rw [hfl, if_neg (by decide), if_pos hfo] at hx
      obtain ⟨hx1, rfl⟩ := Prod.mk.inj hx
      have HX1 := Ak hx1
      have q0 := H4.out.box_cell (i := 5) rfl 0
      simp only [List.getElem?_toArray, List.getElem?_cons_zero, List.getElem?_cons_succ] at q0
      have hv0 := HO.out.vars0; have hv1 := HO.out.vars1
      rw [hvars] at hv0 hv1
      obtain ⟨N, rfl⟩ := Int.eq_ofNat_of_zero_le hv0
      clear hx HX hx1 he h1
      go_upto_region 6 with ((with_reducible refine gate_dst (N := 28) rfl ?_); refine Kd.R_make (Kd.int .i64) (w0 := w4) (W := w4) w4.heap.size 3 ?hg (N := 28) ?hd 25 (.tmp 27) (.tmp 27) rfl (N : Int) rfl rfl Try.underlying25 (.int .i64 0) 8 info3 rfl Nat.zero_lt_one (by decide) 0 (ok := fun _ => True) (okp := fun _ => False) rfl (fun _ h => h.elim) trivial hv0 (by omega) (Below.refl _ _) (Nat.le_refl _) ?_; (case hd => rfl); (case hg => rfl); intro v28 w5 hR hb _ _; have H5 := Ak (H4.out.row_new hb hR); clear hR hb H4 q0)
      rw [Int.toNat_natCast] at H5
      obtain ⟨A28, c28, rfl, hc28, _⟩ := H5.out.row_reads (i := 0) rfl
      rw [List.length_replicate] at H5 hc28 ⊢
      rw [← modelTo_zero s1.vals N] at H5
      have hvl := HO.out.vals
      rw [hvars] at hvl
      go_wp2
      go_loopg [31] N (fun kq v31 wr => ∃ i : Nat, v31 = .int .i64 (i : Int) ∧ Aside0 (i + kq = N) ∧ Aside0 (St w wr [row w.heap.size (Kd.int .i64) 3 (.slice A28 N c28) (modelTo s1.vals N i),
        box g 82 #[.int .i64 s1.vars, .slice fx.Ac s1.cl.length fx.cc, .map (some fx.b), vV, tV, rV, .int .i64 s1.done, .int .i64 s1.fuel, .int .i64 s1.steps, .slice none 0 0, .bool false, .bool s1.failed],
        fzA fx.wS fx.F0, row fx.w0.heap.size (Kd.int .i8) 96 vV s1.vals, row fx.w0.heap.size (Kd.int .i64) 3 tV s1.trail, row fx.w0.heap.size (Kd.int .i64) 3 rV s1.reasons,
        box w.heap.size 24 #[.int .i64 (N : Int), .slice A0_1 l0_1.length c0_1]]))
      case atStart => exact ⟨0, rfl, ⟨by omega⟩, H5⟩
      case round =>
        obtain ⟨i, rfl, HI, H6⟩ := hrel
        clear H5
        by_cases hi : i < N
        · have hi1 : (i : Int) < (N : Int) := by omega
          have h6 := H6.out
          have q3 := h6.box_cell (i := 1) rfl 3
          obtain ⟨gv, cv, rfl, hcells⟩ := h6.row_cells (i := 3) rfl (by omega)
          have hxv := hcells ((i : Int) + 1) (by omega) (by omega)
          rw [show ((i : Int) + 1).toNat = i + 1 by omega] at hxv
          clear hcells
          obtain ⟨g28, c28', he28⟩ := h6.row_form (i := 0) rfl (by rw [modelTo_len]; omega)
          rw [modelTo_len] at he28
          injection he28 with he1 _ he3
          subst he1; subst he3
          simp only [List.getElem?_toArray, List.getElem?_cons_zero, List.getElem?_cons_succ] at q3
          by_cases hp : rd s1.vals ((i : Int) + 1) > 0
          · have hms := modelTo_set (n := N) hp
            obtain ⟨kc, kf⟩ := h6.row_cell_n (i := 0) rfl (modelTo_len _ _ _).symm (i : Int) (by omega) hi1
            have hput := h6.row_set_n (i := 0) rfl (modelTo_len _ _ _).symm (i : Int) 1
            rw [Int.toNat_natCast] at kc kf hput
            rw [hms] at hput
            simp only [List.set] at hput
            have HP := Ak hput
            clear hput h6 H6 hms
            go_upto_region 11 with fail
            generalize World.setCell wr _ _ = w7 at HP ⊢
            clear q3 kc kf hxv
            go_wp2
            go_roundg (gk - 1)
            case measure => have := HI.out; omega
            case rel => exact ⟨i + 1, by go_num, ⟨by have := HI.out; omega⟩, HP⟩
          · have hms := modelTo_skip (n := N) hp
            have h7 := h6
            rw [← hms] at h7
            have H7 := Ak h7
            clear h7 h6 H6 hms
            go_wp2
            go_roundg (gk - 1)
            case measure => have := HI.out; omega
            case rel => exact ⟨i + 1, by go_num, ⟨by have := HI.out; omega⟩, H7⟩
        · have hi1 : ¬ (i : Int) < (N : Int) := by omega
          obtain rfl : i = N := by have := HI.out; omega
          have hma := modelTo_all s1.vals (i : Int)
          rw [Int.toNat_natCast, HX1.out] at hma
          have h6 := H6.out
          rw [hma] at h6
          have H7 := Ak h6
          clear hma h6 H6 hi1
          go_wp2
          go_ret2
          exact ⟨_, rfl, H7.out.row_out (i := 0) rfl, H7.out.below⟩
    · have he0 : (e3 != 0) = true := bne_iff_ne.2 he
      have hx := HX.out
      have hx2 : ([], e3) = (r1, r2) := by
        rw [← hx]
        by_cases h1 : e1 = 0
        · have hfl : s1.failed = false := by
            have := E1.out
            cases hh : s1.failed
            · rfl
            · rw [hh, h1] at this; simp at this
          rw [hfl, if_neg (by decide), E3.out, if_pos h1, E2.out]
          cases found
          · rfl
          · exact absurd (by rw [E3.out, if_pos h1, E2.out]; rfl) he
        · have hfl : s1.failed = true := by
            have := E1.out
            cases hh : s1.failed
            · rw [hh] at this; exact absurd this h1
            · rfl
          rw [hfl, if_pos rfl, E3.out, if_neg h1, E1.out, hfl, if_pos rfl]
      obtain ⟨hx3, hx4⟩ := Prod.mk.inj hx2
      have HX3 := Ak hx3; have HX4 := Ak hx4
      clear hx hx2 hx3 hx4 he HX
      go_wp2
      go_ret2
      exact ⟨_, by rw [← HX4.out]; rfl, by rw [← HX3.out]; exact Kd.R_nil _ _ _ _ _, H4.out.below⟩
set_option maxHeartbeats 1000000 in
set_option maxRecDepth 100000 in
theorem each86 {σ : Type} (step : σ → Nat → S102 → Int × σ) (I : Nat → σ → World → Prop) (F : FuncId) (caps : Array Value) (A : Option Addr) (c : Nat) (l : List S102) (hl : l.length ≤ 9223372036854775807)
    (hF : ∀ (args : Array Value) (w : World), (callFunc F args).run Try.prog w = .ok (.enter F args) w)
    (hread : ∀ i s w, I i s w → k102.C w A l.length l)
    (hmv : ∀ i s w w', I i s w → Below w.heap.size w w' → I i s w')
    (hstep : ∀ s i w, I i s w → i < l.length → Calls Try.prog F (#[.int .i64 (i : Int), .agg #[.int .i64 (l.getD i z102).f0, .int .i64 (l.getD i z102).f1, .int .i64 (l.getD i z102).f2]] ++ caps) w fun e w' => e = .returned (.int .i64 (step s i (l.getD i z102)).1) ∧ I (i + 1) (step s i (l.getD i z102)).2 w')
    (s : σ) (w : World) (h : I 0 s w) :
    Calls Try.prog 86 #[.slice A l.length c, .func (.func F) #[] caps] w fun e w' =>
      e = .returned (.tuple #[.int .i64 (eachRun step s 0 l).1.1, .int .i64 (eachRun step s 0 l).1.2]) ∧ ∃ j, I j (eachRun step s 0 l).2 w' := by
  generalize hR : eachRun step s 0 l = R
  have hu102 := Try.underlying102
  have HR := Ak hR
  have HI := Ak h
  have HS := Ak hstep
  have HD := Ak hread
  have HMV := Ak hmv
  clear hR h hstep hread hmv
  go_enter Try.func86, Try.ntmps86
  go_wp2
  go_loopg [11] l.length (fun k v11 wr => ∃ (i : Nat) (s : σ), v11 = .int .i64 (i : Int) ∧ Aside0 (i + k = l.length) ∧ Aside0 (I i s wr) ∧ Aside0 (eachRun step s i (l.drop i) = R))
  case atStart => exact ⟨0, s, rfl, ⟨by omega⟩, HI, ⟨by simpa using HR.out⟩⟩
  case round =>
    obtain ⟨i, s, rfl, HK, HI, HE⟩ := hrel
    by_cases hi : i < l.length
    · have hi0 : (0 : Int) ≤ (i : Int) := by omega
      have hi1 : (i : Int) < (l.length : Int) := by omega
      obtain ⟨ad, cs, rfl, hcl, hcK, hcell⟩ := Kd.C_get (HD.out i s wr HI.out) z102 (i : Int) hi0 hi1
      have hopen := k102_open hcK
      subst hopen
      have hx0 := hcell 0 _ rfl
      have hx1 := hcell 1 _ rfl
      have hx2 := hcell 2 _ rfl
      rw [Int.toNat_natCast, show k102.sz = 3 from rfl] at hx0 hx1 hx2
      rw [Nat.add_zero] at hx0
      rw [add_field _ _ _ (by decide)] at hx1 hx2
      clear hcell hcl hcK
      have hd : l.drop i = l.getD i z102 :: l.drop (i + 1) := by
        rw [List.drop_eq_getElem_cons hi]; simp [hi]
      have HE2 := HE.out; rw [hd] at HE2; unfold eachRun at HE2
      have hst := fun w h => HS.out s i w h hi
      generalize l.getD i z102 = x at hx0 hx1 hx2 HE2 hst
      have HE3 := Ak HE2; have HST := Ak hst; clear HE HE2 hd hst
      go_wp2_with fail
      refine (HST.out _ (HMV.out i s _ _ HI.out (below_alloc (Below.refl _ _) _))).mono ?_
      clear hx0 hx1 hx2
      rintro e w1 ⟨rfl, hI⟩
      have HI1 := Ak hI; clear hI HI
      by_cases he : (step s i x).1 = 0
      · have HE4 := HE3.out; rw [if_pos he] at HE4
        have HE5 := Ak HE4; clear HE4 HE3
        have he0 : ((step s i x).1 != 0) = false := bne_eq_false_iff_eq.2 he
        clear he
        go_wp2
        go_roundg (gk - 1)
        case measure => have := HK.out; omega
        case rel => exact ⟨i + 1, _, by go_num, ⟨by have := HK.out; omega⟩, HI1, HE5⟩
      · have HE4 := HE3.out; rw [if_neg he] at HE4
        have HE5 := Ak HE4; clear HE4 HE3
        have he0 : ((step s i x).1 != 0) = true := bne_iff_ne.2 he
        clear he
        go_wp2
        go_ret2
        rw [← HE5.out]
        exact ⟨rfl, _, HI1.out⟩
    · have hi1 : ¬ (i : Int) < (l.length : Int) := by omega
      have HE2 := HE.out; rw [List.drop_of_length_le (by omega)] at HE2; unfold eachRun at HE2
      have HE3 := Ak HE2; clear HE HE2
      go_wp2
      go_ret2
      rw [← HE3.out]
      exact ⟨rfl, _, HI.out⟩
set_option maxHeartbeats 1000000 in
set_option maxRecDepth 100000 in
theorem indexFunc68 (p : Int → Bool) (I : World → Prop) (F : FuncId) (caps : Array Value) (A : Option Addr) (c : Nat) (l : List Int) (hl : l.length ≤ 9223372036854775807)
    (hF : ∀ (args : Array Value) (w : World), (callFunc F args).run Try.prog w = .ok (.enter F args) w)
    (hread : ∀ w, I w → Kd.C (Kd.int .i64) w A l.length l)
    (hstep : ∀ (i : Nat) w, I w → i < l.length → Calls Try.prog F (#[.int .i64 (rd l i)] ++ caps) w fun e w' => e = .returned (.bool (p (rd l i))) ∧ I w')
    (w : World) (h : I w) :
    Calls Try.prog 68 #[.slice A l.length c, .func (.func F) #[] caps] w fun e w' => e = .returned (.int .i64 (findFrom p 0 l)) ∧ I w' := by
  generalize hR : findFrom p 0 l = R
  have HR := Ak hR
  have HI := Ak h
  have HS := Ak hstep
  have HD := Ak hread
  clear hR h hstep hread
  go_enter Try.func68, Try.ntmps68
  go_wp2
  go_loopg [8] l.length (fun k v8 wr => ∃ (i : Nat), v8 = .int .i64 (i : Int) ∧ Aside0 (i + k = l.length) ∧ Aside0 (I wr) ∧ Aside0 (findFrom p i (l.drop i) = R))
  case atStart => exact ⟨0, rfl, ⟨by omega⟩, HI, ⟨by simpa using HR.out⟩⟩
  case round =>
    obtain ⟨i, rfl, HK, HI, HE⟩ := hrel
    by_cases hi : i < l.length
    · have hi0 : (0 : Int) ≤ (i : Int) := by omega
      have hi1 : (i : Int) < (l.length : Int) := by omega
      obtain ⟨ad, rfl, hx⟩ := Kd.at_int (HD.out wr HI.out) (i : Int) hi0 hi1
      rw [Int.toNat_natCast] at hx
      have hd : l.drop i = rd l (i : Int) :: l.drop (i + 1) := by
        rw [List.drop_eq_getElem_cons hi]; simp [rd, hi]
      have HE2 := HE.out; rw [hd] at HE2; unfold findFrom at HE2
      have HE3 := Ak HE2; clear HE HE2 hd
      go_wp2_with fail
      refine (HS.out i _ HI.out hi).mono ?_
      clear hx
      rintro e w1 ⟨rfl, hI⟩
      have HI1 := Ak hI; clear hI HI
      by_cases he : p (rd l ↑i) = true
      · have HE4 := HE3.out; rw [if_pos he] at HE4
        have HE5 := Ak HE4; clear HE4 HE3
        go_wp2
        go_ret
        rw [← HE5.out]
        exact ⟨rfl, HI1.out⟩
      · have HE4 := HE3.out; rw [if_neg he] at HE4
        have HE5 := Ak HE4; clear HE4 HE3
        have he0 : p (rd l ↑i) = false := by simpa using he
        clear he
        go_wp2
        go_roundg (gk - 1)
        case measure => have := HK.out; omega
        case rel => exact ⟨i + 1, by go_num, ⟨by have := HK.out; omega⟩, HI1, HE5⟩
    · have hi1 : ¬ (i : Int) < (l.length : Int) := by omega
      have HE2 := HE.out; rw [List.drop_of_length_le (by omega)] at HE2; unfold findFrom at HE2
      have HE3 := Ak HE2; clear HE HE2
      go_wp2
      go_ret
      rw [← HE3.out]
      exact ⟨rfl, HI.out⟩
set_option maxHeartbeats 1000000 in
set_option maxRecDepth 100000 in
theorem containsFunc43 (p : Int → Bool) (I : World → Prop) (F : FuncId) (caps : Array Value) (A : Option Addr) (c : Nat) (l : List Int) (hl : l.length ≤ 9223372036854775807)
    (hF : ∀ (args : Array Value) (w : World), (callFunc F args).run Try.prog w = .ok (.enter F args) w)
    (hread : ∀ w, I w → Kd.C (Kd.int .i64) w A l.length l)
    (hstep : ∀ (i : Nat) w, I w → i < l.length → Calls Try.prog F (#[.int .i64 (rd l i)] ++ caps) w fun e w' => e = .returned (.bool (p (rd l i))) ∧ I w')
    (w : World) (h : I w) :
    Calls Try.prog 43 #[.slice A l.length c, .func (.func F) #[] caps] w fun e w' => e = .returned (.bool (l.any p)) ∧ I w' := by
  have HI := Ak h
  have HS := Ak hstep
  have HD := Ak hread
  have HF := Ak hF
  have hA := Ak (findFrom_any p l 0)
  clear h hstep hread hF
  go_enter Try.func43, Try.ntmps43
  go_wp2_with fail
  refine (indexFunc68 p I F caps A c l hl HF.out HD.out HS.out _ HI.out).mono ?_
  rintro e w1 ⟨rfl, hI⟩
  have HI1 := Ak hI; clear hI HI
  go_wp2
  go_ret
  rw [← hA.out]
  exact ⟨rfl, HI1.out⟩
end Go.Proofs.Ytapbkoolddnjgaa.PA
