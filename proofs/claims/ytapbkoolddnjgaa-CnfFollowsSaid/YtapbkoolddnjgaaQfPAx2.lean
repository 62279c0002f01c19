/- What the claim needs of PAx2: lemmas and contracts, cut by a program to what is used. -/
import Derived.Test.YtapbkoolddnjgaaQfPAx0
import Derived.Test.YtapbkoolddnjgaaQfPAx1
namespace Go.Proofs.Ytapbkoolddnjgaa.PA
open Go.RowKit Go.Proofs.YtapbkoolddnjgaaW.PrintWords Go.Proofs.YtapbkoolddnjgaaW.PrintLast Go.Proofs.YtapbkoolddnjgaaW.PrintMore Go.Proofs.Sl
attribute [local go_sem] max2_int min2_int max_two min_two max_three min_three max_four min_four
set_option linter.unusedVariables false
set_option linter.unusedSimpArgs false
set_option maxHeartbeats 1000000 in
set_option maxRecDepth 100000 in
theorem checkFormula1 (i vars : Int) (A0 : Option Addr) (c0 : Nat) (L : List (List Int)) (A : Option Addr) (c : Nat) (l : List Int) (p : Nat) (w0 w : World) (h : St w0 w (box p 24 #[.int .i64 vars, .slice A0 L.length c0] :: []))
    (hL : Kd.C (Kd.slice 3 (Kd.int .i64)) w A0 L.length L) (hc0 : L.length ≤ c0) (hr : Kd.C (Kd.int .i64) w A l.length l) (hc : l.length ≤ c) :
    Calls Try.prog 40 #[.int .i64 i, .slice A l.length c, .pointer (some ⟨p, 0, none⟩)] w fun e w' =>
      e = .returned (.int .i64 (litErr vars l 12)) ∧ St w0 w' (box p 24 #[.int .i64 vars, .slice A0 L.length c0] :: []) := by
  have hp0 := h.box_cell (i := 0) rfl 0
  have hp1 := h.box_cell (i := 0) rfl 1
  simp only [List.getElem?_toArray, List.getElem?_cons_zero, List.getElem?_cons_succ] at hp0 hp1
  have hu24 := Try.underlying24
  have H := Ak h
  have HL := Ak hL; have HR := Ak hr
  clear h hL hr
  go_enter Try.func40, Try.ntmps40
  go_wp2_with fail
  refine (cnf_clauseErr.calls vars A0 c0 L A c l (litErr vars l 12) _ HL.out hc0 HR.out hc rfl).mono ?_
  clear hp0 hp1
  rintro e w1 ⟨rfl, hb⟩
  have H1 := Ak (H.out.mv hb); clear hb H
  go_wp2
  go_ret
  exact ⟨rfl, H1.out⟩
def checkFormula (vars : Int) (L : List (List Int)) : Int × Int :=
  if ¬ (0 ≤ vars ∧ vars ≤ 1000) then (0, 2) else if ¬ (L.length : Int) ≤ 4000 then (0, 8) else (eachRun (fun (_ : Unit) _ c => (litErr vars c 12, ())) () 0 L).1
def cnf_CheckFormula.f (a0_0 : Int) (l0_1 : List (List Int)) : Option (Int × Int) := some (checkFormula a0_0 l0_1)
theorem within_dec (a lo hi : Int) : cnf_within.f a lo hi = some (decide (lo ≤ a ∧ a ≤ hi)) := by unfold cnf_within.f; split <;> simp_all <;> omega
theorem unless_dec (b : Bool) (e : Int) : cnf_unless.f b e = some (if b = true then 0 else e) := by unfold cnf_unless.f; split <;> rfl
theorem first2 (a b : Int) : cnf_first.f 3 [a, b] = some (if a = 0 then b else a) := by
  have h1 : wrap64 1 = 1 := by unfold wrap64; omega
  have h2 : wrap64 2 = 2 := by unfold wrap64; omega
  unfold cnf_first.f
  simp only [cnf_first.l0, rd, List.length_cons, List.length_nil]
  by_cases ha : a = 0 <;> by_cases hb : b = 0 <;> simp [ha, hb, h1, h2]
set_option maxHeartbeats 4000000 in
set_option maxRecDepth 100000 in
theorem cnf_CheckFormula.calls (a0_0 : Int) (A0_1 : Option Addr) (c0_1 : Nat) (l0_1 : List (List Int)) (r1 r2 : Int) (w : World) (hr0_1 : Kd.C (Kd.slice 3 (Kd.int .i64)) w A0_1 l0_1.length l0_1) (hc0_1 : l0_1.length ≤ c0_1) (h : cnf_CheckFormula.f a0_0 l0_1 = some (r1, r2)) :
    Calls Try.prog 8 #[.agg #[.int .i64 a0_0, .slice A0_1 l0_1.length c0_1]] w fun e w' => e = .returned (.tuple #[.int .i64 r1, .int .i64 r2]) ∧ Below w.heap.size w w' := by
  have hE : checkFormula a0_0 l0_1 = (r1, r2) := Option.some.inj h
  clear h
  have HE := Ak hE; clear hE
  have HR := Ak hr0_1
  have hl : l0_1.length ≤ 9223372036854775807 := hr0_1.2.1
  have H0 := Ak ((St.start w).box_new 24 #[.int .i64 a0_0, .slice A0_1 l0_1.length c0_1])
  clear hr0_1
  have hu24 := Try.underlying24
  obtain ⟨e1, he1⟩ : ∃ e1 : Int, e1 = if 0 ≤ a0_0 ∧ a0_0 ≤ 1000 then 0 else 2 := ⟨_, rfl⟩
  obtain ⟨e2, he2⟩ : ∃ e2 : Int, e2 = if (l0_1.length : Int) ≤ 4000 then 0 else 8 := ⟨_, rfl⟩
  obtain ⟨e3, he3⟩ : ∃ e3 : Int, e3 = if e1 = 0 then e2 else e1 := ⟨_, rfl⟩
  have E1 := Ak he1; have E2 := Ak he2; have E3 := Ak he3; clear he1 he2 he3
  go_enter Try.func8, Try.ntmps8
  go_wp2
  have n0_ := Ak H0.out.drew
  clear H0
  have H0 := n0_
  clear n0_
  refine start_ (n := 12) (S := fun w' => St w w' (box w.heap.size 24 #[.int .i64 a0_0, .slice A0_1 l0_1.length c0_1] :: [])) (ds := []) #[false, false, false, false, false, false, false, false, false, false, false, false] (by kernel_rfl) rfl rfl (H0.out) (fun hHeld => ?_)
  generalize World.drew _ = w_0 at H0 hHeld ⊢
  refine pure_ (i := 0) (N := some 5) (v := ?_) (a' := ?_) #[true, false, false, false, false, false, false, false, false, false, false, false] rfl rfl (by kernel_rfl) (fun _ _ _ h => h) (Or.inl ⟨by rfl, ?_⟩) ?_ ?_
  rotate_left
  · intro w'
    go_simp
    with_reducible rfl
  rotate_left
  · (try simp only [Act.put, La, Lb, Lc, i64_w, i32_w])
    rfl
  refine take_ (i := 1) (N := some 6) (v := ?_) (a' := ?_) #[true, true, false, false, false, false, false, false, false, false, false, false] rfl rfl (by kernel_rfl) (fun _ _ _ h => h) (Or.inl ⟨by rfl, ?_⟩) hHeld ?_ ?_
  rotate_left
  · intro w' hs
    have h0 := hs.box_cell (i := 0) rfl 0
    have h1 := hs.box_cell (i := 0) rfl 1
    simp only [List.getElem?_toArray, List.getElem?_cons_zero, List.getElem?_cons_succ] at h0 h1
    go_simp
    with_reducible rfl
  rotate_left
  · (try simp only [Act.put, La, Lb, Lc, i64_w, i32_w])
    rfl
  refine pure_ (i := 4) (N := some 9) (v := ?_) (a' := ?_) #[true, true, false, false, true, false, false, false, false, false, false, false] rfl rfl (by kernel_rfl) (fun _ _ _ h => h) (Or.inl ⟨by rfl, ?_⟩) ?_ ?_
  rotate_left
  · intro w'
    go_simp
    with_reducible rfl
  rotate_left
  · (try simp only [Act.put, La, Lb, Lc, i64_w, i32_w])
    rfl
  refine take_ (i := 5) (N := some 10) (v := ?_) (a' := ?_) #[true, true, false, false, true, true, false, false, false, false, false, false] rfl rfl (by kernel_rfl) (fun _ _ _ h => h) (Or.inl ⟨by rfl, ?_⟩) hHeld ?_ ?_
  rotate_left
  · intro w' hs
    have h0 := hs.box_cell (i := 0) rfl 0
    have h1 := hs.box_cell (i := 0) rfl 1
    simp only [List.getElem?_toArray, List.getElem?_cons_zero, List.getElem?_cons_succ] at h0 h1
    go_simp
    with_reducible rfl
  rotate_left
  · (try simp only [Act.put, La, Lb, Lc, i64_w, i32_w])
    rfl
  refine pure_ (i := 6) (N := some 11) (v := ?_) (a' := ?_) #[true, true, false, false, true, true, true, false, false, false, false, false] rfl rfl (by kernel_rfl) (fun _ _ _ h => h) (Or.inl ⟨by rfl, ?_⟩) ?_ ?_
  rotate_left
  · intro w'
    go_simp
    with_reducible rfl
  rotate_left
  · (try simp only [Act.put, La, Lb, Lc, i64_w, i32_w])
    rfl
  refine pure_ (i := 7) (N := some 12) (v := ?_) (a' := ?_) #[true, true, false, false, true, true, true, true, false, false, false, false] rfl rfl (by kernel_rfl) (fun _ _ _ h => h) (Or.inl ⟨by rfl, ?_⟩) ?_ ?_
  rotate_left
  · intro w'
    go_simp
    with_reducible rfl
  rotate_left
  · (try simp only [Act.put, La, Lb, Lc, i64_w, i32_w])
    rfl
  refine one_ (i := 2) (N := some 7) #[true, true, true, false, true, true, true, true, false, false, false, false] rfl rfl (by kernel_rfl) (by decide) (fun K hK => ?_)
  refine goes_ Try.func38 (by kernel_rfl) rfl ?args_2 (by rfl) rfl rfl ?hargs_2 ?main_2
  rotate_left 2
  with_reducible refine (cnf_within.calls a0_0 0 1000 (decide (0 ≤ a0_0 ∧ a0_0 ≤ 1000)) _ (within_dec _ _ _)).mono ?_
  case hargs_2 => ((try simp only [List.map_toArray, List.map_cons, List.map_nil]); first | done | rfl)
  rintro e w_1 ⟨rfl, hb⟩
  refine ⟨_, rfl, ?_⟩
  have n0_ := Ak (H0.out.mv hb.below)
  clear H0
  have H0 := n0_
  clear n0_
  clear hHeld
  (try clear hb)
  refine hK.out _ _ (H0.out) (fun hHeld => ?_)
  clear hK K
  refine norm_ (a' := ?_) ?_ ?_
  rotate_left
  · show Act.put _ (some 7) _ = _
    (try simp only [Act.put, La, Lb, Lc, i64_w, i32_w])
    rfl
  refine one_ (i := 3) (N := some 8) #[true, true, true, true, true, true, true, true, false, false, false, false] rfl rfl (by kernel_rfl) (by decide) (fun K hK => ?_)
  refine goes_ Try.func37 (by kernel_rfl) rfl ?args_4 (by rfl) rfl rfl ?hargs_4 ?main_4
  rotate_left 2
  with_reducible refine (cnf_unless.calls (decide (0 ≤ a0_0 ∧ a0_0 ≤ 1000)) 2 e1 _ (by rw [unless_dec, E1.out]; simp)).mono ?_
  case hargs_4 => ((try simp only [List.map_toArray, List.map_cons, List.map_nil]); first | done | rfl)
  rintro e w_3 ⟨rfl, hb⟩
  refine ⟨_, rfl, ?_⟩
  have n0_ := Ak (H0.out.mv hb.below)
  clear H0
  have H0 := n0_
  clear n0_
  clear hHeld
  (try clear hb)
  refine hK.out _ _ (H0.out) (fun hHeld => ?_)
  clear hK K
  refine norm_ (a' := ?_) ?_ ?_
  rotate_left
  · show Act.put _ (some 8) _ = _
    (try simp only [Act.put, La, Lb, Lc, i64_w, i32_w])
    rfl
  refine one_ (i := 8) (N := some 13) #[true, true, true, true, true, true, true, true, true, false, false, false] rfl rfl (by kernel_rfl) (by decide) (fun K hK => ?_)
  refine goes_ Try.func37 (by kernel_rfl) rfl ?args_6 (by rfl) rfl rfl ?hargs_6 ?main_6
  rotate_left 2
  with_reducible refine (cnf_unless.calls (decide ((l0_1.length : Int) ≤ 4000)) 8 e2 _ (by rw [unless_dec, E2.out]; simp)).mono ?_
  case hargs_6 => ((try simp only [List.map_toArray, List.map_cons, List.map_nil]); first | done | rfl)
  rintro e w_5 ⟨rfl, hb⟩
  refine ⟨_, rfl, ?_⟩
  have n0_ := Ak (H0.out.mv hb.below)
  clear H0
  have H0 := n0_
  clear n0_
  clear hHeld
  (try clear hb)
  refine hK.out _ _ (H0.out) (fun hHeld => ?_)
  clear hK K
  refine norm_ (a' := ?_) ?_ ?_
  rotate_left
  · show Act.put _ (some 13) _ = _
    (try simp only [Act.put, La, Lb, Lc, i64_w, i32_w])
    rfl
  refine one_ (i := 9) (N := some 14) #[true, true, true, true, true, true, true, true, true, true, false, false] rfl rfl (by kernel_rfl) (by decide) (fun K hK => ?_)
  refine value_ (v := .slice (some ⟨w_5.heap.size, 0, none⟩) 2 2) (w1 := w_5.alloc (.cells #[.int .i64 e1, .int .i64 e2] 28)) (by rfl) rfl ?run_8 ?main_8
  · first | (go_simp; done) | (go_simp; rfl)
  have n0_ := Ak (H0.out.box_new 28 #[.int .i64 e1, .int .i64 e2])
  clear H0
  have H0 := n0_
  clear n0_
  clear hHeld
  (try clear hb)
  refine hK.out _ _ (H0.out.drop 0) (fun hHeld => ?_)
  clear hK K
  refine norm_ (a' := ?_) ?_ ?_
  rotate_left
  · show Act.put _ (some 14) _ = _
    (try simp only [Act.put, La, Lb, Lc, i64_w, i32_w])
    rfl
  generalize (w_5.alloc (.cells #[.int .i64 e1, .int .i64 e2] 28)) = w_7 at H0 hHeld ⊢
  refine one_ (i := 10) (N := some 15) #[true, true, true, true, true, true, true, true, true, true, true, false] rfl rfl (by kernel_rfl) (by decide) (fun K hK => ?_)
  refine goes_ Try.func36 (by kernel_rfl) rfl ?args_10 (by rfl) rfl rfl ?hargs_10 ?main_10
  rotate_left 2
  with_reducible refine (cnf_first.calls 3 _ 2 [e1, e2] e3 _ (C_of_block (k := .i64) (H0.out.box_at (i := 0) rfl).1 (by simp)) (by simp) (by rw [first2, E3.out])).mono ?_
  case hargs_10 => ((try simp only [List.map_toArray, List.map_cons, List.map_nil]); first | done | rfl)
  rintro e w_9 ⟨rfl, hb⟩
  refine ⟨_, rfl, ?_⟩
  have n0_ := Ak (H0.out.mv hb.below)
  clear H0
  have H0 := n0_
  clear n0_
  clear hHeld
  (try clear hb)
  refine hK.out _ _ (H0.out.drop 0) (fun hHeld => ?_)
  clear hK K
  refine norm_ (a' := ?_) ?_ ?_
  rotate_left
  · show Act.put _ (some 15) _ = _
    (try simp only [Act.put, La, Lb, Lc, i64_w, i32_w])
    rfl
  refine pure_ (i := 11) (N := some 4) (v := ?_) (a' := ?_) #[true, true, true, true, true, true, true, true, true, true, true, true] rfl rfl (by kernel_rfl) (fun _ _ _ h => h) (Or.inl ⟨by rfl, ?_⟩) ?_ ?_
  rotate_left
  · intro w'
    go_simp
    with_reducible rfl
  rotate_left
  · (try simp only [Act.put, La, Lb, Lc, i64_w, i32_w])
    rfl
  refine done_ (by kernel_rfl) ?_
  have H1 := Ak (H0.out.drop 0); clear H0 hHeld
  have hc1 := H1.out.box_cell (i := 0) rfl 1
  simp only [List.eraseIdx, List.getElem?_toArray, List.getElem?_cons_zero, List.getElem?_cons_succ] at hc1
  by_cases he : e3 = 0
  · have he0 : (e3 != 0) = false := bne_eq_false_iff_eq.2 he
    have HE0 := Ak he; clear he
    have hx := HE.out
    unfold checkFormula at hx
    have h1 : 0 ≤ a0_0 ∧ a0_0 ≤ 1000 := by
      by_cases h : 0 ≤ a0_0 ∧ a0_0 ≤ 1000
      · exact h
      · have := HE0.out; rw [E3.out, E1.out, if_neg h, if_neg (by decide)] at this; simp at this
    have h2 : (l0_1.length : Int) ≤ 4000 := by
      by_cases h : (l0_1.length : Int) ≤ 4000
      · exact h
      · have := HE0.out; rw [E3.out, E1.out, if_pos h1, if_pos rfl, E2.out, if_neg h] at this; simp at this
    rw [if_neg (by simpa using h1), if_neg (by simpa using h2)] at hx
    have HX := Ak hx; clear hx h1 h2
    go_wp2_with fail
    refine (each39 (fun (_ : Unit) _ c => (litErr a0_0 c 12, ())) (fun _ w' => St w w' (box w.heap.size 24 #[.int .i64 a0_0, .slice A0_1 l0_1.length c0_1] :: [])) 40 _ A0_1 c0_1 l0_1 hl (enters_ Try.func40 rfl rfl) (fun b w' hs => Kd.C_below HR.out hs.below) (fun b i w' A' c' hs hi hr hc => ?_) () _ H1.out).mono ?_
    · exact checkFormula1 _ _ _ _ _ _ _ _ _ _ _ hs (Kd.C_below HR.out hs.below) hc0_1 hr hc
    clear hc1
    rintro e w2 ⟨rfl, hs⟩
    have H2 := Ak hs; clear hs H1
    go_wp2
    go_ret2
    rw [HX.out]
    exact ⟨rfl, H2.out.below⟩
  · have he0 : (e3 != 0) = true := bne_iff_ne.2 he
    have hx := HE.out
    unfold checkFormula at hx
    have hx2 : (0, e3) = (r1, r2) := by
      rw [← hx]
      by_cases h1 : 0 ≤ a0_0 ∧ a0_0 ≤ 1000
      · rw [if_neg (by simpa using h1), E3.out, E1.out, if_pos h1, if_pos rfl]
        by_cases h2 : (l0_1.length : Int) ≤ 4000
        · exact absurd (by rw [E3.out, E1.out, if_pos h1, if_pos rfl, E2.out, if_pos h2]) he
        · rw [E2.out, if_neg h2, if_pos h2]
      · rw [if_pos h1, E3.out, E1.out, if_neg h1, if_neg (by decide)]
    have HX := Ak hx2; clear hx hx2 he
    go_wp2
    go_ret2
    obtain ⟨h1, h2⟩ := Prod.mk.inj HX.out
    rw [← h1, ← h2]
    exact ⟨rfl, H1.out.below⟩
theorem litRun_mem (vars : Int) : ∀ (l : List Int) (b : Int) (i : Nat), (eachRun (fun b (_ : Nat) n => litStep vars b n) b i l).1.2 = 0 → ∀ n ∈ l, n ≠ 0 ∧ wrap64 (-vars) ≤ n ∧ n ≤ vars
  | [], _, _, _, n, hn => by simp at hn
  | x :: l, b, i, h, n, hn => by
    unfold eachRun at h
    by_cases hs : (litStep vars b x).1 = 0
    · rw [if_pos hs] at h
      rcases List.mem_cons.1 hn with rfl | hn
      · unfold litStep at hs
        by_cases h0 : n = 0
        · rw [if_pos h0] at hs; simp at hs
        · rw [if_neg h0] at hs
          by_cases h1 : wrap64 (-vars) ≤ n ∧ n ≤ vars
          · exact ⟨h0, h1⟩
          · rw [if_neg h1] at hs; simp at hs
      · exact litRun_mem vars l _ _ h n hn
    · rw [if_neg hs] at h
      exact absurd h hs
theorem litErr_mem {vars most : Int} {l : List Int} (h : litErr vars l most = 0) : ∀ n ∈ l, n ≠ 0 ∧ wrap64 (-vars) ≤ n ∧ n ≤ vars := by
  unfold litErr at h
  split at h
  · simp at h
  · exact litRun_mem vars l 0 0 h
theorem eachU_mem {α : Type} (f : α → Int) : ∀ (l : List α) (i : Nat), (eachRun (fun (_ : Unit) _ c => (f c, ())) () i l).1.2 = 0 → ∀ c ∈ l, f c = 0
  | [], _, _, c, hc => by simp at hc
  | x :: l, i, h, c, hc => by
    unfold eachRun at h
    by_cases hs : f x = 0
    · rw [if_pos hs] at h
      rcases List.mem_cons.1 hc with rfl | hc
      · exact hs
      · exact eachU_mem f l _ h c hc
    · rw [if_neg hs] at h
      exact absurd h hs
theorem checkFormula_ok {vars : Int} {L : List (List Int)} (h : (checkFormula vars L).2 = 0) : 0 ≤ vars ∧ vars ≤ 1000 ∧ (L.length : Int) ≤ 4000 ∧ ∀ c ∈ L, litErr vars c 12 = 0 := by
  unfold checkFormula at h
  by_cases h1 : 0 ≤ vars ∧ vars ≤ 1000
  · rw [if_neg (by simpa using h1)] at h
    by_cases h2 : (L.length : Int) ≤ 4000
    · rw [if_neg (by simpa using h2)] at h
      exact ⟨h1.1, h1.2, h2, eachU_mem _ L 0 h⟩
    · rw [if_pos h2] at h; simp at h
  · rw [if_pos h1] at h; simp at h
def cnf_formulaErr.f (a0_0 : Int) (l0_1 : List (List Int)) : Option (Int) := (cnf_CheckFormula.f a0_0 l0_1).bind fun bt107 => (some bt107.2)
set_option maxHeartbeats 8000000 in
set_option maxRecDepth 100000 in
theorem cnf_formulaErr.calls (a0_0 : Int) (A0_1 : Option Addr) (c0_1 : Nat) (l0_1 : List (List Int)) (r : Int) (w : World) (hr0_1 : Kd.C (Kd.slice 3 (Kd.int .i64)) w A0_1 l0_1.length l0_1) (hc0_1 : l0_1.length ≤ c0_1) (h : cnf_formulaErr.f a0_0 l0_1 = some r) :
    Calls Try.prog 45 #[.agg #[.int .i64 a0_0, .slice A0_1 l0_1.length c0_1]] w fun e w' => e = .returned (.int .i64 r) ∧ Below w.heap.size w w' := by
  have hu24 := Try.underlying24
  have HR0_1 := Ak hr0_1
  have HC0_1 := Ak hc0_1
  clear hr0_1 hc0_1
  have HB := Ak (Below.refl w.heap.size w)
  have H : ((cnf_CheckFormula.f a0_0 l0_1).bind fun bt107 => (some bt107.2)) = some r := h
  clear h
  replace H := Option.bind_eq_some_iff.mp H
  obtain ⟨⟨t107, t108⟩, A20, H⟩ := H
  replace H : (some t108) = some r := H
  have A2 := Ak A20
  clear A20
  obtain rfl := Option.some.inj H
  go_enter Try.func45, Try.ntmps45
  go_wp2_with (first | ((with_reducible refine gate_dst (N := 1) rfl ?_); refine box_event ?hg (N := 1) ?hd (cs := #[.int .i64 a0_0, .slice A0_1 l0_1.length c0_1]) (t := 24) ?hr ?_; (case hd => rfl); (case hg => rfl); (case hr => first | (go_simp; done) | (go_simp; rfl)); intro gb106 hg w3 hbox hb; have n0_ := Ak (below_step (by repeat (first | (with_reducible first | exact HB.out | apply below_alloc | apply pw_below_drewN | apply below_drew1) | exact HB.out)) hb); have n1_ := Ak (hbox); have n2_ := Ak ((by rw [hg]; exact (below_size (by repeat (first | (with_reducible first | exact HB.out | apply below_alloc | apply pw_below_drewN | apply below_drew1) | exact HB.out))) : w.heap.size ≤ gb106)); have n3_ := Ak ((by rw [hg]; exact (below_size (by repeat (first | (with_reducible first | exact HB.out | apply below_alloc | apply pw_below_drewN | apply below_drew1) | exact HB.out))) : w.heap.size ≤ gb106)); clear HB; have HB := n0_; have BK106 := n1_; have GW106 := n2_; have GE106 := n3_; clear n0_ n1_ n2_ n3_; clear hb hbox hg; have hcz4_0 : w3.cell? ⟨gb106, 0, none⟩ = some (.int .i64 a0_0) := (blk_cell BK106.out 0).trans rfl; have hcz4_1 : w3.cell? ⟨gb106, 1, none⟩ = some (.slice A0_1 l0_1.length c0_1) := (blk_cell BK106.out 1).trans rfl; have hfz4_0 := blk_frozen BK106.out 0; have hfz4_1 := blk_frozen BK106.out 1) | ((with_reducible refine gate_callee (f := 8) rfl ?_); refine goesL_ (some 7) rfl rfl Try.func8 (by kernel_rfl) rfl #[.agg #[.int .i64 a0_0, .slice A0_1 l0_1.length c0_1]] rfl (by (try simp only [List.map_toArray, List.map_cons, List.map_nil]); first | done | rfl | (simp only [List.length_drop, List.length_take]; rfl)) ?_; (with_reducible refine (cnf_CheckFormula.calls a0_0 _ _ l0_1 t107 t108 _ ?side1 ?side2 A2.out).mono ?_); (case side1 => repeat (first | exact (Kd.C_below HR0_1.out HB.out) | (with_reducible refine Kd.C_alloc ?_ _) | (with_reducible refine Kd.C_drewN ?_ _) | (with_reducible refine Kd.C_drew ?_))); (case side2 => exact HC0_1.out); rintro e w5 ⟨rfl, hb⟩; refine ⟨_, rfl, ?_⟩; have n0_ := Ak (blk_below (g := gb106) (o := .cells #[.int .i64 a0_0, .slice A0_1 l0_1.length c0_1] 24 (0, 0)) (by (with_reducible repeat (first | refine blk_drewN ?_ _ | refine blk_drew ?_ | refine blk_alloc ?_ _)); exact BK106.out) hb); have n1_ := Ak (below_step (by repeat (first | (with_reducible first | exact HB.out | apply below_alloc | apply pw_below_drewN | apply below_drew1 | refine below_set ?_ GE106.out) | exact HB.out)) hb); clear BK106; clear HB; have BK106 := n0_; have HB := n1_; clear n0_ n1_; (try clear hb); (try clear hb2); (try clear hk); (try clear hi)))
  go_ret
  exact ⟨by first | rfl | (simp [errW_none, errW_some] <;> rfl) | (simp [*, errW_none, errW_some] <;> rfl), by repeat (first | (with_reducible first | exact HB.out | apply below_alloc | apply pw_below_drewN | apply below_drew1 | refine below_set ?_ GE106.out) | exact HB.out)⟩
def MX (w0 : World) : Kd (List Int) := Kd.mix 3 (Kd.int .i64) (Kd.int .i64) w0
theorem MX_reads {w0 w : World} {A : Option Addr} {n : Nat} {l : List (List Int)} (h : (MX w0).C w A n l) (hb : Below w0.heap.size w0 w) : Kd.C (Kd.slice 3 (Kd.int .i64)) w A n l :=
  ReadsRow.imp_ h (Below.refl _ _) (fun _ _ hp => Kd.mix_read (e := 3) (d := Kd.int .i64) (dm := Kd.int .i64) rfl (fun _ _ h => h) hb hp)
theorem equalIn_slice_nil {P : Program} (w : World) (d : Nat) (t e : TypeId) (a : Option Addr) (l c : Nat) (h : P.underlying t = some (.slice e)) : (Op.equalIn (d + 1) t (.slice a l c) (.slice none 0 0)).run P w = .ok a.isNone w := by
  cases a <;> simp [Op.equalIn, run_underlying h]
theorem equal_slice_nil {P : Program} (w : World) (t e : TypeId) (a : Option Addr) (l c : Nat) (h : P.underlying t = some (.slice e)) : (Op.equal t (.slice a l c) (.slice none 0 0)).run P w = .ok a.isNone w := equalIn_slice_nil w 9999 t e a l c h
theorem eql_slice_nil {P : Program} (w : World) (t e : TypeId) (a : Option Addr) (l c : Nat) (h : P.underlying t = some (.slice e)) : (binOp .eql t (.slice a l c) (.slice none 0 0)).run P w = .ok (.bool a.isNone) w := by
  simp [binOp, equal_slice_nil w t e a l c h]
theorem neq_slice_nil {P : Program} (w : World) (t e : TypeId) (a : Option Addr) (l c : Nat) (h : P.underlying t = some (.slice e)) : (binOp .neq t (.slice a l c) (.slice none 0 0)).run P w = .ok (.bool (!a.isNone)) w := by
  simp [binOp, equal_slice_nil w t e a l c h]
set_option maxHeartbeats 4000000 in
set_option maxRecDepth 100000 in
theorem clone50 (A : Option Addr) (c : Nat) (l : List (List Int)) (w0 w : World) (hread : Kd.C (Kd.slice 3 (Kd.int .i64)) w0 A l.length l) (hb0 : Below w0.heap.size w0 w) (hc : l.length ≤ c) (hl : l.length ≤ 100000) :
    Calls Try.prog 50 #[.slice A l.length c] w fun e w' => ∃ v, e = .returned v ∧ (MX w0).R 25 w' w.heap.size (fun _ => True) v l ∧ Below w.heap.size w w' := by
  have hi25 : (Try.prog.info? 25).map (fun i => (i.zero, i.size, i.bytes)) = some (some (.slice none 0 0), 1, 24) := by kernel_rfl
  have HR := Ak hread; have HB0 := Ak hb0; clear hb0
  have HB := Ak (Below.refl w.heap.size w)
  have heq := eql_slice_nil (P := Try.prog) w 22 25 A l.length c Try.underlying22
  rcases A with _ | ad
  · obtain rfl : l = [] := by
      cases l with
      | nil => rfl
      | cons x l => obtain ⟨ad, h, _⟩ := hread.2.2 (by simp); cases h
    clear hread
    rw [List.length_nil] at heq
    rw [show (none : Option Addr).isNone = true from rfl] at heq
    go_enter Try.func50, Try.ntmps50
    go_wp2
    go_ret
    exact ⟨_, rfl, Kd.R_nil (MX w0) 25 w w.heap.size (fun _ => True), HB.out⟩
  · clear hread
    rw [show (some ad : Option Addr).isNone = false from rfl] at heq
    go_enter Try.func50, Try.ntmps50
    go_wp2_with (first | ((with_reducible refine gate_dst (N := 5) rfl ?_); refine Kd.R_lit (MX w0) _ 25 ?hg (N := 5) ?hd (xs := ([] : List (List Int))) (inner := []) (ok := fun _ => True) (okp := fun _ => True) ?hr ?hp (fun _ hk => hk) trivial (Below.refl _ _) (Nat.le_refl _) (by simp) ?_; (case hd => rfl); (case hg => rfl); (case hr => first | (go_simp; done) | (go_simp; rfl)); (case hp => exact (Reps.none _ _)); intro v5 w3 ho hb hg hnew) | ((with_reducible refine gate_builtin (b := .append) (xs := #[.tmp 5, .tmp 6]) rfl ?_); at_builtin; have HO := Ak ho; have HB2 := Ak hb; have HN := Ak hnew; clear ho hb hg hnew; refine Kd.R_append_rows (MX w0) (w0 := w) (W := w3) (Rr := fun x cs => ∃ A c, cs = [Value.slice A x.length c] ∧ x.length ≤ c ∧ Kd.C (Kd.int .i64) w0 A x.length x) w.heap.size rfl (.tmp 5) (.tmp 6) 22 25 (.slice none 0 0) 24 rfl Try.underlying22 hi25 rfl Nat.zero_lt_one (by omega) v5 [] l (some ad) l.length c (fun _ => True) (fun _ => False) rfl rfl HO.out ?aR ?aM (fun _ h => h.elim) (fun _ _ => trivial) HB2.out HB2.out.size ?aL ?_; (case aR => exact ReadsRow.imp_ (ReadsRow.imp_ HR.out HB0.out (fun _ _ hp => hp)) HB2.out (fun _ _ hp => hp)); (case aM => rintro x cs ⟨A, c, rfl, h2, h3⟩; exact Kd.mix_came h2 h3); (case aL => simp only [List.length_nil]; omega); intro v7 w7 ho7 hb7 _ _; rw [List.nil_append] at ho7; have HO7 := Ak ho7; have HB7 := Ak hb7; clear ho7 hb7))
    go_ret
    exact ⟨_, rfl, HO7.out, HB7.out⟩
end Go.Proofs.Ytapbkoolddnjgaa.PA
