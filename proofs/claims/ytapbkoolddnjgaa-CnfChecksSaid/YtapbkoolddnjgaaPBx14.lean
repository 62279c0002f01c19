/- Contracts of functions, in part written by a program of this session out of the translation, in part by hand. -/
import Derived.Test.YtapbkoolddnjgaaPBx0
import Derived.Test.YtapbkoolddnjgaaPBx1
import Derived.Test.YtapbkoolddnjgaaPBx2
import Derived.Test.YtapbkoolddnjgaaPBx11
namespace Go.Proofs.Ytapbkoolddnjgaa.PB
open Go.RowKit Go.Proofs.YtapbkoolddnjgaaW.PrintWords Go.Proofs.YtapbkoolddnjgaaW.PrintLast Go.Proofs.YtapbkoolddnjgaaW.PrintMore Go.Proofs.Sl
attribute [local go_sem] max2_int min2_int max_two min_two max_three min_three max_four min_four   -- for this text's walks alone
set_option linter.unusedVariables false
set_option linter.unusedSimpArgs false

/-! ### cnf_FalseIn: function 10 -/
/-- Whether a literal is true in a model. -/
def litTrue (model : List Int) (n : Int) : Bool := (rd model (mx n (wrap64 (-n)) - 1) == 1) == decide (n > 0)
def litIn (model : List Int) (n : Int) : Prop := 0 ≤ mx n (wrap64 (-n)) - 1 ∧ mx n (wrap64 (-n)) - 1 < model.length

set_option maxHeartbeats 1000000 in
set_option maxRecDepth 100000 in
theorem falseIn1 (n : Int) (w0 w : World) (L : List Asn) (h : St w0 w L) :
    Calls Try.prog 44 #[.int .i64 n] w fun e w' => e = .returned (.bool (!decide (0 ≤ n ∧ n ≤ 1))) ∧ St w0 w' L := by
  have H := Aside0.mk h
  clear h
  go_enter Try.func44, Try.ntmps44
  go_wp2_with fail
  refine (cnf_within.calls _ _ _ (decide (0 ≤ n ∧ n ≤ 1)) _ (within_dec _ _ _)).mono ?_
  rintro e w1 ⟨rfl, hb⟩
  have H1 := Aside0.mk (H.out.mv hb.below); clear hb H
  generalize hbq : decide (0 ≤ n ∧ n ≤ 1) = b
  have HQ := Aside0.mk hbq; clear hbq
  go_wp2
  go_ret
  rw [HQ.out]
  exact ⟨rfl, H1.out⟩

set_option maxHeartbeats 4000000 in
set_option maxRecDepth 100000 in
theorem falseIn2 (n : Int) (A : Option Addr) (c : Nat) (l : List Int) (p : Nat) (w0 w : World) (L : List Asn) (h : St w0 w (box p 25 #[.slice A l.length c] :: L))
    (hr : Kd.C (Kd.int .i64) w0 A l.length l) (hc : l.length ≤ c) (hn : litIn l n) :
    Calls Try.prog 46 #[.int .i64 n, .pointer (some ⟨p, 0, none⟩)] w fun e w' => e = .returned (.bool (litTrue l n)) ∧ St w0 w' (box p 25 #[.slice A l.length c] :: L) := by
  have H := Aside0.mk h
  obtain ⟨hn0, hn1⟩ := hn
  unfold litTrue
  have hq2 : l.length ≤ 9223372036854775807 := hr.2.1
  generalize hm0 : mx n (wrap64 (-n)) = m at hn0 hn1
  obtain ⟨q, rfl⟩ : ∃ q : Int, m = q + 1 := ⟨m - 1, by omega⟩
  rw [Int.add_sub_cancel] at hn0 hn1 
  rw [Int.add_sub_cancel]
  have M0 := Aside0.mk hm0; clear hm0
  obtain ⟨ad, rfl, hx⟩ := Kd.at_int hr q hn0 hn1
  have hlt := World.block_lt_of_cell? w0 _ hx
  have HX := Aside0.mk hx; have HR := Aside0.mk hr; have HN := Aside0.mk hlt
  have hw : wrap64 q = q := by unfold wrap64; omega
  clear h hr hx hlt hq2
  go_enter Try.func46, Try.ntmps46
  go_wp2
  have n0_ := Aside0.mk H.out.drew
  clear H
  have H := n0_
  clear n0_
  refine start_ (n := 11) (S := fun w' => St w0 w' (box p 25 #[.slice (some ad) l.length c] :: L)) (ds := []) #[false, false, false, false, false, false, false, false, false, false, false] (by kernel_rfl) rfl rfl (H.out) (fun hHeld => ?_)
  generalize World.drew _ = w_0 at H hHeld ⊢
  refine take_ (i := 0) (N := some 4) (v := ?_) (a' := ?_) #[true, false, false, false, false, false, false, false, false, false, false] rfl rfl (by kernel_rfl) (fun _ _ _ h => h) (Or.inl ⟨by rfl, ?_⟩) hHeld ?_ ?_
  rotate_left
  · intro w' hs
    have h0 := hs.box_cell (i := 0) rfl 0
    simp only [List.getElem?_toArray, List.getElem?_cons_zero, List.getElem?_cons_succ] at h0
    have h1 := (hs.below.cell HN.out).trans HX.out
    go_simp
    with_reducible rfl
  rotate_left
  · (try simp only [Act.put, List.setIfInBounds_toArray, List.set_cons_zero, List.set_cons_succ, i64_w, i32_w])
    rfl
  refine pure_ (i := 1) (N := some 5) (v := ?_) (a' := ?_) #[true, true, false, false, false, false, false, false, false, false, false] rfl rfl (by kernel_rfl) (fun _ _ _ h => h) (Or.inl ⟨by rfl, ?_⟩) ?_ ?_
  rotate_left
  · intro w'
    go_simp
    with_reducible rfl
  rotate_left
  · (try simp only [Act.put, List.setIfInBounds_toArray, List.set_cons_zero, List.set_cons_succ, i64_w, i32_w])
    rfl
  refine pure_ (i := 7) (N := some 11) (v := ?_) (a' := ?_) #[true, true, false, false, false, false, false, true, false, false, false] rfl rfl (by kernel_rfl) (fun _ _ _ h => h) (Or.inl ⟨by rfl, ?_⟩) ?_ ?_
  rotate_left
  · intro w'
    go_simp
    with_reducible rfl
  rotate_left
  · (try simp only [Act.put, List.setIfInBounds_toArray, List.set_cons_zero, List.set_cons_succ, i64_w, i32_w])
    rfl
  refine pure_ (i := 8) (N := some 12) (v := ?_) (a' := ?_) #[true, true, false, false, false, false, false, true, true, false, false] rfl rfl (by kernel_rfl) (fun _ _ _ h => h) (Or.inl ⟨by rfl, ?_⟩) ?_ ?_
  rotate_left
  · intro w'
    go_simp
    with_reducible rfl
  rotate_left
  · (try simp only [Act.put, List.setIfInBounds_toArray, List.set_cons_zero, List.set_cons_succ, i64_w, i32_w])
    rfl
  refine one_ (i := 2) (N := some 6) #[true, true, true, false, false, false, false, true, true, false, false] rfl rfl (by kernel_rfl) (by decide) (fun K hK => ?_)
  refine goes_ Try.func47 (by kernel_rfl) rfl ?args_2 (by rfl) rfl rfl ?hargs_2 ?main_2
  rotate_left 2
  with_reducible refine (cnf_variable.calls n (q + 1) _ (by unfold cnf_variable.f; rw [M0.out])).mono ?_
  case hargs_2 => ((try simp only [List.map_toArray, List.map_cons, List.map_nil]); first | done | rfl)
  rintro e w_1 ⟨rfl, hb⟩
  refine ⟨_, rfl, ?_⟩
  have n0_ := Aside0.mk (H.out.mv hb)
  clear H
  have H := n0_
  clear n0_
  clear hHeld
  (try clear hb)
  refine hK.out _ _ (H.out) (fun hHeld => ?_)
  clear hK K
  refine norm_ (a' := ?_) ?_ ?_
  rotate_left
  · show Act.put _ (some 6) _ = _
    (try simp only [Act.put, List.setIfInBounds_toArray, List.set_cons_zero, List.set_cons_succ, i64_w, i32_w])
    rfl
  refine pure_ (i := 3) (N := some 7) (v := ?_) (a' := ?_) #[true, true, true, true, false, false, false, true, true, false, false] rfl rfl (by kernel_rfl) (fun _ _ _ h => h) (Or.inl ⟨by rfl, ?_⟩) ?_ ?_
  rotate_left
  · intro w'
    go_simp
    with_reducible rfl
  rotate_left
  · (try simp only [Act.put, List.setIfInBounds_toArray, List.set_cons_zero, List.set_cons_succ, i64_w, i32_w])
    rfl
  refine pure_ (i := 4) (N := some 8) (v := ?_) (a' := ?_) #[true, true, true, true, true, false, false, true, true, false, false] rfl rfl (by kernel_rfl) (fun _ _ _ h => h) (Or.inl ⟨by rfl, ?_⟩) ?_ ?_
  rotate_left
  · intro w'
    go_simp
    with_reducible rfl
  rotate_left
  · (try simp only [Act.put, List.setIfInBounds_toArray, List.set_cons_zero, List.set_cons_succ, i64_w, i32_w])
    rfl
  refine take_ (i := 5) (N := some 9) (v := ?_) (a' := ?_) #[true, true, true, true, true, true, false, true, true, false, false] rfl rfl (by kernel_rfl) (fun _ _ _ h => h) (Or.inl ⟨by rfl, ?_⟩) hHeld ?_ ?_
  rotate_left
  · intro w' hs
    have h0 := hs.box_cell (i := 0) rfl 0
    simp only [List.getElem?_toArray, List.getElem?_cons_zero, List.getElem?_cons_succ] at h0
    have h1 := (hs.below.cell HN.out).trans HX.out
    go_simp
    with_reducible rfl
  rotate_left
  · (try simp only [Act.put, List.setIfInBounds_toArray, List.set_cons_zero, List.set_cons_succ, i64_w, i32_w])
    rfl
  refine pure_ (i := 6) (N := some 10) (v := ?_) (a' := ?_) #[true, true, true, true, true, true, true, true, true, false, false] rfl rfl (by kernel_rfl) (fun _ _ _ h => h) (Or.inl ⟨by rfl, ?_⟩) ?_ ?_
  rotate_left
  · intro w'
    go_simp
    with_reducible rfl
  rotate_left
  · (try simp only [Act.put, List.setIfInBounds_toArray, List.set_cons_zero, List.set_cons_succ, i64_w, i32_w])
    rfl
  refine pure_ (i := 9) (N := some 13) (v := ?_) (a' := ?_) #[true, true, true, true, true, true, true, true, true, true, false] rfl rfl (by kernel_rfl) (fun _ _ _ h => h) (Or.inl ⟨by rfl, ?_⟩) ?_ ?_
  rotate_left
  · intro w'
    go_simp
    with_reducible rfl
  rotate_left
  · (try simp only [Act.put, List.setIfInBounds_toArray, List.set_cons_zero, List.set_cons_succ, i64_w, i32_w])
    rfl
  refine pure_ (i := 10) (N := some 3) (v := ?_) (a' := ?_) #[true, true, true, true, true, true, true, true, true, true, true] rfl rfl (by kernel_rfl) (fun _ _ _ h => h) (Or.inl ⟨by rfl, ?_⟩) ?_ ?_
  rotate_left
  · intro w'
    go_simp
    with_reducible rfl
  rotate_left
  · (try simp only [Act.put, List.setIfInBounds_toArray, List.set_cons_zero, List.set_cons_succ, i64_w, i32_w])
    rfl
  refine done_ (by kernel_rfl) ?_
  go_wp2
  go_ret
  exact ⟨rfl, H.out⟩

def falseFrom (model : List Int) : Nat → List (List Int) → List Int
  | _, [] => []
  | i, c :: L => if c.any (litTrue model) = true then falseFrom model (i + 1) L else (i : Int) :: falseFrom model (i + 1) L
def falseIn (vars : Int) (L : List (List Int)) (model : List Int) : List Int × Int :=
  if (checkFormula vars L).2 ≠ 0 then ([], (checkFormula vars L).2) else if (model.length : Int) ≠ vars then ([], 10) else
  if model.any (fun n => !decide (0 ≤ n ∧ n ≤ 1)) = true then ([], 2) else (falseFrom model 0 L, 0)
def cnf_FalseIn.f (a0_0 : Int) (l0_1 : List (List Int)) (l1 : List Int) : Option (List Int × Int) := some (falseIn a0_0 l0_1 l1)

theorem litIn_ok {vars : Int} {L : List (List Int)} {model : List Int} (h : (checkFormula vars L).2 = 0) (hm : (model.length : Int) = vars) {c : List Int} (hc : c ∈ L) {n : Int} (hn : n ∈ c) : litIn model n := by
  obtain ⟨h1, h2, _, h4⟩ := checkFormula_ok h
  obtain ⟨h5, h6, h7⟩ := litErr_mem (h4 c hc) n hn
  have h8 : wrap64 (-vars) = -vars := by unfold wrap64; omega
  rw [h8] at h6
  unfold litIn
  rw [mx_neg (by omega)]
  split <;> omega

theorem first3 (a b c : Int) : cnf_first.f 4 [a, b, c] = some (if a = 0 then (if b = 0 then c else b) else a) := by
  have h1 : wrap64 1 = 1 := by unfold wrap64; omega
  have h2 : wrap64 2 = 2 := by unfold wrap64; omega
  have h3 : wrap64 3 = 3 := by unfold wrap64; omega
  unfold cnf_first.f
  simp only [cnf_first.l0, rd, List.length_cons, List.length_nil]
  by_cases ha : a = 0 <;> by_cases hb : b = 0 <;> by_cases hc : c = 0 <;> simp [ha, hb, hc, h1, h2, h3]

set_option maxHeartbeats 8000000 in
set_option maxRecDepth 100000 in
theorem cnf_FalseIn.calls (a0_0 : Int) (A0_1 : Option Addr) (c0_1 : Nat) (l0_1 : List (List Int)) (A1 : Option Addr) (c1 : Nat) (l1 : List Int) (r1 : List Int) (r2 : Int) (w : World) (hr0_1 : Kd.C (Kd.slice 3 (Kd.int .i64)) w A0_1 l0_1.length l0_1) (hc0_1 : l0_1.length ≤ c0_1) (hr1 : Kd.C (Kd.int .i64) w A1 l1.length l1) (hc1 : l1.length ≤ c1) (h : cnf_FalseIn.f a0_0 l0_1 l1 = some (r1, r2)) :
    Calls Try.prog 10 #[.agg #[.int .i64 a0_0, .slice A0_1 l0_1.length c0_1], .slice A1 l1.length c1] w fun e w' => ∃ v0_ : Value, e = .returned (.tuple #[v0_, .int .i64 r2]) ∧ Kd.R (Kd.int .i64) 3 w' w.heap.size (fun _ => True) v0_ r1 ∧ Below w.heap.size w w' := by
  have hE : falseIn a0_0 l0_1 l1 = (r1, r2) := Option.some.inj h
  clear h
  have HE := Aside0.mk hE; clear hE
  have HR := Aside0.mk hr0_1; have HR1 := Aside0.mk hr1
  have hl : l0_1.length ≤ 9223372036854775807 := hr0_1.2.1
  have hl1 : l1.length ≤ 9223372036854775807 := hr1.2.1
  have H0 := Aside0.mk (((St.start w).box_new 24 #[.int .i64 a0_0, .slice A0_1 l0_1.length c0_1]).box_new 25 #[.slice A1 l1.length c1])
  simp only [World.size_alloc] at H0
  clear hr0_1 hr1
  have hu24 := Try.underlying24
  obtain ⟨e1, he1⟩ : ∃ e1 : Int, e1 = (checkFormula a0_0 l0_1).2 := ⟨_, rfl⟩
  obtain ⟨e2, he2⟩ : ∃ e2 : Int, e2 = if (l1.length : Int) = a0_0 then 0 else 10 := ⟨_, rfl⟩
  obtain ⟨od, hod⟩ : ∃ od : Bool, od = l1.any (fun n => !decide (0 ≤ n ∧ n ≤ 1)) := ⟨_, rfl⟩
  obtain ⟨e3, he3⟩ : ∃ e3 : Int, e3 = if od = true then 2 else 0 := ⟨_, rfl⟩
  obtain ⟨e4, he4⟩ : ∃ e4 : Int, e4 = if e1 = 0 then (if e2 = 0 then e3 else e2) else e1 := ⟨_, rfl⟩
  have E1 := Aside0.mk he1; have E2 := Aside0.mk he2; have E3 := Aside0.mk he3; have E4 := Aside0.mk he4; have OD := Aside0.mk hod; clear he1 he2 he3 he4 hod
  have hm0 := H0.out.box_cell (i := 0) rfl 0
  simp only [List.getElem?_toArray, List.getElem?_cons_zero] at hm0
  go_enter Try.func10, Try.ntmps10
  go_wp2_with fail
  refine (containsFunc43 (fun n => !decide (0 ≤ n ∧ n ≤ 1)) (fun w' => St w w' (box (w.heap.size + 1) 25 #[.slice A1 l1.length c1] :: box w.heap.size 24 #[.int .i64 a0_0, .slice A0_1 l0_1.length c0_1] :: [])) 44 _ A1 c1 l1 hl1 (enters_ Try.func44 rfl rfl) (fun w' hs => Kd.C_below HR1.out hs.below) (fun i w' hs hi => ?_) _ H0.out).mono ?_
  · exact falseIn1 _ _ _ _ hs
  rw [← OD.out]
  clear hm0
  rintro e w1 ⟨rfl, hs⟩
  have H1 := Aside0.mk hs; clear hs H0
  go_wp2
  have n0_ := Aside0.mk H1.out.drew
  clear H1
  have H1 := n0_
  clear n0_
  refine start_ (n := 14) (S := fun w' => St w w' (box (w.heap.size + 1) 25 #[.slice A1 l1.length c1] :: box w.heap.size 24 #[.int .i64 a0_0, .slice A0_1 l0_1.length c0_1] :: [])) (ds := []) #[false, false, false, false, false, false, false, false, false, false, false, false, false, false] (by kernel_rfl) rfl rfl (H1.out) (fun hHeld => ?_)
  generalize World.drew _ = w_3 at H1 hHeld ⊢
  refine take_ (i := 0) (N := some 14) (v := ?_) (a' := ?_) #[true, false, false, false, false, false, false, false, false, false, false, false, false, false] rfl rfl (by kernel_rfl) (fun _ _ _ h => h) (Or.inl ⟨by rfl, ?_⟩) hHeld ?_ ?_
  rotate_left
  · intro w' hs
    have h0 := hs.box_cell (i := 0) rfl 0
    have h1 := hs.box_cell (i := 1) rfl 0
    have h2 := hs.box_cell (i := 1) rfl 1
    simp only [List.getElem?_toArray, List.getElem?_cons_zero, List.getElem?_cons_succ] at h0 h1 h2
    go_simp
    with_reducible rfl
  rotate_left
  · (try simp only [Act.put, List.setIfInBounds_toArray, List.set_cons_zero, List.set_cons_succ, i64_w, i32_w])
    rfl
  refine take_ (i := 2) (N := some 16) (v := ?_) (a' := ?_) #[true, false, true, false, false, false, false, false, false, false, false, false, false, false] rfl rfl (by kernel_rfl) (fun _ _ _ h => h) (Or.inl ⟨by rfl, ?_⟩) hHeld ?_ ?_
  rotate_left
  · intro w' hs
    have h0 := hs.box_cell (i := 0) rfl 0
    have h1 := hs.box_cell (i := 1) rfl 0
    have h2 := hs.box_cell (i := 1) rfl 1
    simp only [List.getElem?_toArray, List.getElem?_cons_zero, List.getElem?_cons_succ] at h0 h1 h2
    go_simp
    with_reducible rfl
  rotate_left
  · (try simp only [Act.put, List.setIfInBounds_toArray, List.set_cons_zero, List.set_cons_succ, i64_w, i32_w])
    rfl
  refine pure_ (i := 3) (N := some 17) (v := ?_) (a' := ?_) #[true, false, true, true, false, false, false, false, false, false, false, false, false, false] rfl rfl (by kernel_rfl) (fun _ _ _ h => h) (Or.inl ⟨by rfl, ?_⟩) ?_ ?_
  rotate_left
  · intro w'
    go_simp
    with_reducible rfl
  rotate_left
  · (try simp only [Act.put, List.setIfInBounds_toArray, List.set_cons_zero, List.set_cons_succ, i64_w, i32_w])
    rfl
  refine pure_ (i := 4) (N := some 18) (v := ?_) (a' := ?_) #[true, false, true, true, true, false, false, false, false, false, false, false, false, false] rfl rfl (by kernel_rfl) (fun _ _ _ h => h) (Or.inl ⟨by rfl, ?_⟩) ?_ ?_
  rotate_left
  · intro w'
    go_simp
    with_reducible rfl
  rotate_left
  · (try simp only [Act.put, List.setIfInBounds_toArray, List.set_cons_zero, List.set_cons_succ, i64_w, i32_w])
    rfl
  refine take_ (i := 5) (N := some 19) (v := ?_) (a' := ?_) #[true, false, true, true, true, true, false, false, false, false, false, false, false, false] rfl rfl (by kernel_rfl) (fun _ _ _ h => h) (Or.inl ⟨by rfl, ?_⟩) hHeld ?_ ?_
  rotate_left
  · intro w' hs
    have h0 := hs.box_cell (i := 0) rfl 0
    have h1 := hs.box_cell (i := 1) rfl 0
    have h2 := hs.box_cell (i := 1) rfl 1
    simp only [List.getElem?_toArray, List.getElem?_cons_zero, List.getElem?_cons_succ] at h0 h1 h2
    go_simp
    with_reducible rfl
  rotate_left
  · (try simp only [Act.put, List.setIfInBounds_toArray, List.set_cons_zero, List.set_cons_succ, i64_w, i32_w])
    rfl
  refine pure_ (i := 6) (N := some 20) (v := ?_) (a' := ?_) #[true, false, true, true, true, true, true, false, false, false, false, false, false, false] rfl rfl (by kernel_rfl) (fun _ _ _ h => h) (Or.inl ⟨by rfl, ?_⟩) ?_ ?_
  rotate_left
  · intro w'
    go_simp
    with_reducible rfl
  rotate_left
  · (try simp only [Act.put, List.setIfInBounds_toArray, List.set_cons_zero, List.set_cons_succ, i64_w, i32_w])
    rfl
  refine pure_ (i := 8) (N := some 22) (v := ?_) (a' := ?_) #[true, false, true, true, true, true, true, false, true, false, false, false, false, false] rfl rfl (by kernel_rfl) (fun _ _ _ h => h) (Or.inl ⟨by rfl, ?_⟩) ?_ ?_
  rotate_left
  · intro w'
    go_simp
    with_reducible rfl
  rotate_left
  · (try simp only [Act.put, List.setIfInBounds_toArray, List.set_cons_zero, List.set_cons_succ, i64_w, i32_w])
    rfl
  refine pure_ (i := 9) (N := some 23) (v := ?_) (a' := ?_) #[true, false, true, true, true, true, true, false, true, true, false, false, false, false] rfl rfl (by kernel_rfl) (fun _ _ _ h => h) (Or.inl ⟨by rfl, ?_⟩) ?_ ?_
  rotate_left
  · intro w'
    go_simp
    with_reducible rfl
  rotate_left
  · (try simp only [Act.put, List.setIfInBounds_toArray, List.set_cons_zero, List.set_cons_succ, i64_w, i32_w])
    rfl
  refine one_ (i := 1) (N := some 15) #[true, true, true, true, true, true, true, false, true, true, false, false, false, false] rfl rfl (by kernel_rfl) (by decide) (fun K hK => ?_)
  refine goes_ Try.func45 (by kernel_rfl) rfl ?args_5 (by rfl) rfl rfl ?hargs_5 ?main_5
  rotate_left 2
  with_reducible refine (cnf_formulaErr.calls a0_0 A0_1 c0_1 l0_1 e1 _ (Kd.C_below HR.out H1.out.below) hc0_1 (by rw [E1.out]; simp [cnf_formulaErr.f, cnf_CheckFormula.f])).mono ?_
  case hargs_5 => ((try simp only [List.map_toArray, List.map_cons, List.map_nil]); first | done | rfl)
  rintro e w_4 ⟨rfl, hb⟩
  refine ⟨_, rfl, ?_⟩
  have n0_ := Aside0.mk (H1.out.mv hb)
  clear H1
  have H1 := n0_
  clear n0_
  clear hHeld
  (try clear hb)
  refine hK.out _ _ (H1.out) (fun hHeld => ?_)
  clear hK K
  refine norm_ (a' := ?_) ?_ ?_
  rotate_left
  · show Act.put _ (some 15) _ = _
    (try simp only [Act.put, List.setIfInBounds_toArray, List.set_cons_zero, List.set_cons_succ, i64_w, i32_w])
    rfl
  refine one_ (i := 7) (N := some 21) #[true, true, true, true, true, true, true, true, true, true, false, false, false, false] rfl rfl (by kernel_rfl) (by decide) (fun K hK => ?_)
  refine goes_ Try.func37 (by kernel_rfl) rfl ?args_7 (by rfl) rfl rfl ?hargs_7 ?main_7
  rotate_left 2
  with_reducible refine (cnf_unless.calls (decide ((l1.length : Int) = a0_0)) 10 e2 _ (by rw [unless_dec, E2.out]; simp)).mono ?_
  case hargs_7 => ((try simp only [List.map_toArray, List.map_cons, List.map_nil]); first | done | rfl)
  rintro e w_6 ⟨rfl, hb⟩
  refine ⟨_, rfl, ?_⟩
  have n0_ := Aside0.mk (H1.out.mv hb.below)
  clear H1
  have H1 := n0_
  clear n0_
  clear hHeld
  (try clear hb)
  refine hK.out _ _ (H1.out) (fun hHeld => ?_)
  clear hK K
  refine norm_ (a' := ?_) ?_ ?_
  rotate_left
  · show Act.put _ (some 21) _ = _
    (try simp only [Act.put, List.setIfInBounds_toArray, List.set_cons_zero, List.set_cons_succ, i64_w, i32_w])
    rfl
  refine one_ (i := 10) (N := some 24) #[true, true, true, true, true, true, true, true, true, true, true, false, false, false] rfl rfl (by kernel_rfl) (by decide) (fun K hK => ?_)
  refine goes_ Try.func37 (by kernel_rfl) rfl ?args_9 (by rfl) rfl rfl ?hargs_9 ?main_9
  rotate_left 2
  with_reducible refine (cnf_unless.calls (!od) 2 e3 _ (by rw [unless_dec, E3.out]; cases od <;> simp)).mono ?_
  case hargs_9 => ((try simp only [List.map_toArray, List.map_cons, List.map_nil]); first | done | rfl)
  rintro e w_8 ⟨rfl, hb⟩
  refine ⟨_, rfl, ?_⟩
  have n0_ := Aside0.mk (H1.out.mv hb.below)
  clear H1
  have H1 := n0_
  clear n0_
  clear hHeld
  (try clear hb)
  refine hK.out _ _ (H1.out) (fun hHeld => ?_)
  clear hK K
  refine norm_ (a' := ?_) ?_ ?_
  rotate_left
  · show Act.put _ (some 24) _ = _
    (try simp only [Act.put, List.setIfInBounds_toArray, List.set_cons_zero, List.set_cons_succ, i64_w, i32_w])
    rfl
  refine one_ (i := 11) (N := some 25) #[true, true, true, true, true, true, true, true, true, true, true, true, false, false] rfl rfl (by kernel_rfl) (by decide) (fun K hK => ?_)
  refine value_ (v := .slice (some ⟨w_8.heap.size, 0, none⟩) 3 3) (w1 := w_8.alloc (.cells #[.int .i64 e1, .int .i64 e2, .int .i64 e3] 28)) (by rfl) rfl ?run_11 ?main_11
  · first | (go_simp; done) | (go_simp; rfl)
  have n0_ := Aside0.mk (H1.out.box_new 28 #[.int .i64 e1, .int .i64 e2, .int .i64 e3])
  clear H1
  have H1 := n0_
  clear n0_
  clear hHeld
  (try clear hb)
  refine hK.out _ _ (H1.out.drop 0) (fun hHeld => ?_)
  clear hK K
  refine norm_ (a' := ?_) ?_ ?_
  rotate_left
  · show Act.put _ (some 25) _ = _
    (try simp only [Act.put, List.setIfInBounds_toArray, List.set_cons_zero, List.set_cons_succ, i64_w, i32_w])
    rfl
  generalize (w_8.alloc (.cells #[.int .i64 e1, .int .i64 e2, .int .i64 e3] 28)) = w_10 at H1 hHeld ⊢
  refine one_ (i := 12) (N := some 26) #[true, true, true, true, true, true, true, true, true, true, true, true, true, false] rfl rfl (by kernel_rfl) (by decide) (fun K hK => ?_)
  refine goes_ Try.func36 (by kernel_rfl) rfl ?args_13 (by rfl) rfl rfl ?hargs_13 ?main_13
  rotate_left 2
  with_reducible refine (cnf_first.calls 4 _ 3 [e1, e2, e3] e4 _ (C_of_block (k := .i64) (H1.out.box_at (i := 0) rfl).1 (by simp)) (by simp) (by rw [first3, E4.out])).mono ?_
  case hargs_13 => ((try simp only [List.map_toArray, List.map_cons, List.map_nil]); first | done | rfl)
  rintro e w_12 ⟨rfl, hb⟩
  refine ⟨_, rfl, ?_⟩
  have n0_ := Aside0.mk (H1.out.mv hb.below)
  clear H1
  have H1 := n0_
  clear n0_
  clear hHeld
  (try clear hb)
  refine hK.out _ _ (H1.out.drop 0) (fun hHeld => ?_)
  clear hK K
  refine norm_ (a' := ?_) ?_ ?_
  rotate_left
  · show Act.put _ (some 26) _ = _
    (try simp only [Act.put, List.setIfInBounds_toArray, List.set_cons_zero, List.set_cons_succ, i64_w, i32_w])
    rfl
  refine pure_ (i := 13) (N := some 7) (v := ?_) (a' := ?_) #[true, true, true, true, true, true, true, true, true, true, true, true, true, true] rfl rfl (by kernel_rfl) (fun _ _ _ h => h) (Or.inl ⟨by rfl, ?_⟩) ?_ ?_
  rotate_left
  · intro w'
    go_simp
    with_reducible rfl
  rotate_left
  · (try simp only [Act.put, List.setIfInBounds_toArray, List.set_cons_zero, List.set_cons_succ, i64_w, i32_w])
    rfl
  refine done_ (by kernel_rfl) ?_
  have H2 := Aside0.mk (H1.out.drop 0); clear H1 hHeld
  have hc2 := H2.out.box_cell (i := 1) rfl 1
  simp only [List.eraseIdx, List.getElem?_toArray, List.getElem?_cons_zero, List.getElem?_cons_succ] at hc2 H2
  by_cases he : e4 = 0
  · have he0 : (e4 != 0) = false := bne_eq_false_iff_eq.2 he
    have hx := HE.out
    unfold falseIn at hx
    have k1 : e1 = 0 := by
      by_cases h : e1 = 0
      · exact h
      · rw [E4.out, if_neg h] at he; exact he
    have k2 : e2 = 0 := by
      rw [E4.out, if_pos k1] at he
      by_cases h : e2 = 0
      · exact h
      · rw [if_neg h] at he; exact he
    have k3 : e3 = 0 := by rw [E4.out, if_pos k1, if_pos k2] at he; exact he
    have k4 : (l1.length : Int) = a0_0 := by
      by_cases h : (l1.length : Int) = a0_0
      · exact h
      · rw [E2.out, if_neg h] at k2; simp at k2
    have k5 : od = false := by
      rw [E3.out] at k3
      cases od
      · rfl
      · simp at k3
    have k0 : (checkFormula a0_0 l0_1).2 = 0 := by rw [← E1.out]; exact k1
    rw [if_neg (by simpa using k0), if_neg (by simpa using k4), if_neg (by rw [← OD.out, k5]; simp)] at hx
    obtain ⟨hx1, hx2⟩ := Prod.mk.inj hx
    have HX1 := Aside0.mk hx1; have HX2 := Aside0.mk hx2
    have h4 := (checkFormula_ok k0).2.2.1
    have HK0 := Aside0.mk k0; have HK4 := Aside0.mk k4
    clear hx hx1 hx2 k0 k1 k2 k3 k4 k5 he
    have hmx : (l0_1.length : Int) ≤ 4000 := h4
    clear h4
    go_wp2
    go_loopg [9, 34] l0_1.length (fun k v9 v34 wr => ∃ (i : Nat) (out : List Int), v34 = .int .i64 (i : Int) ∧ Aside0 (i + k = l0_1.length) ∧ Aside0 (out ++ falseFrom l1 i (l0_1.drop i) = r1) ∧ Aside0 (out.length ≤ i) ∧ Aside0 (St w wr (row w.heap.size (Kd.int .i64) 3 v9 out :: box (w.heap.size + 1) 25 #[.slice A1 l1.length c1] :: box w.heap.size 24 #[.int .i64 a0_0, .slice A0_1 l0_1.length c0_1] :: [])))
    case atStart => exact ⟨0, [], rfl, ⟨by omega⟩, ⟨by simpa using HX1.out⟩, ⟨by simp⟩, ⟨H2.out.row_nil _ _⟩⟩
    case round =>
      obtain ⟨i, out, rfl, HK, HF, HN, HS⟩ := hrel
      by_cases hi : i < l0_1.length
      · have hi0 : (0 : Int) ≤ (i : Int) := by omega
        have hi1 : (i : Int) < (l0_1.length : Int) := by omega
        obtain ⟨ad, A', c', rfl, hx0, hxc, hxr⟩ := at_rows HR.out (i : Int) hi0 hi1
        have hx := (HS.out.below.cell (World.block_lt_of_cell? w _ hx0)).trans hx0
        rw [Int.toNat_natCast] at hx
        have hd : l0_1.drop i = rdL l0_1 (i : Int) :: l0_1.drop (i + 1) := by
          rw [List.drop_eq_getElem_cons hi]; simp [rdL, hi]
        have hmem : rdL l0_1 (i : Int) ∈ l0_1 := by
          have : rdL l0_1 (i : Int) = l0_1[i] := by simp [rdL, hi]
          rw [this]; exact List.getElem_mem hi
        have hlin : ∀ n ∈ rdL l0_1 (i : Int), litIn l1 n := fun n hn => litIn_ok HK0.out HK4.out hmem hn
        generalize hcl : rdL l0_1 (i : Int) = cl at hx0 hx hxc hxr hd hlin
        have hcl' : cl.length ≤ 9223372036854775807 := hxr.2.1
        have HE2 := HF.out; rw [hd] at HE2; unfold falseFrom at HE2
        have HE3 := Aside0.mk HE2
        have HC := Aside0.mk hxc; have HX := Aside0.mk hxr; have HL := Aside0.mk hlin
        have HSf := Aside0.mk (HS.out.front (i := 1) rfl)
        simp only [List.eraseIdx] at HSf
        clear hxc hxr hx0 hd hmem hlin hcl HF HE2 HS
        generalize hb : cl.any (litTrue l1) = b at HE3
        have HBq := Aside0.mk hb; clear hb
        cases b
        · have HE4 := HE3.out; rw [if_neg (by simp)] at HE4
          have HE5 := Aside0.mk HE4; clear HE4 HE3
          go_wp2_with fail
          refine (containsFunc43 (litTrue l1) (fun w' => St w w' (box (w.heap.size + 1) 25 #[.slice A1 l1.length c1] :: row w.heap.size (Kd.int .i64) 3 u9 out :: box w.heap.size 24 #[.int .i64 a0_0, .slice (some ad) l0_1.length c0_1] :: [])) 46 _ A' c' cl hcl' (enters_ Try.func46 rfl rfl) (fun w' hs => Kd.C_below HX.out hs.below) (fun j w' hs hj => ?_) _ HSf.out).mono ?_
          · exact falseIn2 _ _ _ _ _ _ _ _ hs HR1.out hc1 (HL.out _ (by simp [rd, hj]))
          rw [HBq.out]
          clear hx
          rintro e w3 ⟨rfl, hs⟩
          have H3 := Aside0.mk (hs.front (i := 1) rfl); clear hs HSf
          simp only [List.eraseIdx] at H3
          have hbd : (out.length + 1) * 8 ≤ 140737488355328 := by have := HN.out; omega
          have HBD := Aside0.mk hbd; clear hbd
          go_wp2_with (at_builtin; refine st_append_int (k := .i64) (e := 3) (xs := out) (y := (i : Int)) H3.out (i := 0) rfl rfl (.tmp 43) (.tmp 45) 25 8 rfl Try.underlying25 info3 (by decide) rfl rfl HBD.out ?_; intro v4 w4 hs4; have H4 := Aside0.mk hs4; clear hs4 H3)
          go_roundg (gk - 1)
          case measure => have := HK.out; omega
          case rel => exact ⟨i + 1, out ++ [(i : Int)], by go_num, ⟨by have := HK.out; omega⟩, ⟨by rw [List.append_assoc]; exact HE5.out⟩, ⟨by have := HN.out; simp; omega⟩, H4⟩
        · have HE4 := HE3.out; rw [if_pos rfl] at HE4
          have HE5 := Aside0.mk HE4; clear HE4 HE3
          go_wp2_with fail
          refine (containsFunc43 (litTrue l1) (fun w' => St w w' (box (w.heap.size + 1) 25 #[.slice A1 l1.length c1] :: row w.heap.size (Kd.int .i64) 3 u9 out :: box w.heap.size 24 #[.int .i64 a0_0, .slice (some ad) l0_1.length c0_1] :: [])) 46 _ A' c' cl hcl' (enters_ Try.func46 rfl rfl) (fun w' hs => Kd.C_below HX.out hs.below) (fun j w' hs hj => ?_) _ HSf.out).mono ?_
          · exact falseIn2 _ _ _ _ _ _ _ _ hs HR1.out hc1 (HL.out _ (by simp [rd, hj]))
          rw [HBq.out]
          clear hx
          rintro e w3 ⟨rfl, hs⟩
          have H3 := Aside0.mk (hs.front (i := 1) rfl); clear hs HSf
          simp only [List.eraseIdx] at H3
          go_wp2
          go_roundg (gk - 1)
          case measure => have := HK.out; omega
          case rel => exact ⟨i + 1, out, by go_num, ⟨by have := HK.out; omega⟩, HE5, ⟨by have := HN.out; omega⟩, H3⟩
      · have hi1 : ¬ (i : Int) < (l0_1.length : Int) := by omega
        have HE2 := HF.out; rw [List.drop_of_length_le (by omega)] at HE2; unfold falseFrom at HE2; rw [List.append_nil] at HE2
        subst HE2
        go_wp2
        go_ret2
        exact ⟨_, by rw [← HX2.out]; rfl, HS.out.row_out (i := 0) rfl, HS.out.below⟩
  · have he0 : (e4 != 0) = true := bne_iff_ne.2 he
    have hx := HE.out
    unfold falseIn at hx
    have hx2 : ([], e4) = (r1, r2) := by
      rw [← hx]
      by_cases k1 : e1 = 0
      · have k0 : (checkFormula a0_0 l0_1).2 = 0 := by rw [← E1.out]; exact k1
        rw [if_neg (by simpa using k0)]
        by_cases k4 : (l1.length : Int) = a0_0
        · have k2 : e2 = 0 := by rw [E2.out, if_pos k4]
          rw [if_neg (by simpa using k4)]
          rw [E4.out, if_pos k1, if_pos k2, E3.out] at he
          have k5 : od = true := by
            cases od
            · simp at he
            · rfl
          rw [if_pos (by rw [← OD.out, k5]), E4.out, if_pos k1, if_pos k2, E3.out, k5]; simp
        · have k2 : e2 = 10 := by rw [E2.out, if_neg k4]
          rw [if_pos k4, E4.out, if_pos k1, if_neg (by rw [k2]; decide), k2]
      · have k0 : ¬ (checkFormula a0_0 l0_1).2 = 0 := by rw [← E1.out]; exact k1
        rw [if_pos k0, E4.out, if_neg k1, E1.out]
    obtain ⟨hx3, hx4⟩ := Prod.mk.inj hx2
    have HX3 := Aside0.mk hx3; have HX4 := Aside0.mk hx4
    clear hx hx2 hx3 hx4 he
    go_wp2
    go_ret2
    exact ⟨_, by rw [HX4.out]; rfl, by rw [← HX3.out]; exact Kd.R_nil _ _ _ _ _, H2.out.below⟩

/-! ### ratchetbase_Within: function 48 -/
def ratchetbase_Within.f (a0 : Int) (a1 : Int) (a2 : Int) : Option (Bool) := if a1 ≤ a0 then (some (decide (a0 ≤ a2))) else (some false)
set_option maxHeartbeats 8000000 in
set_option maxRecDepth 100000 in
theorem ratchetbase_Within.calls (a0 : Int) (a1 : Int) (a2 : Int) (r : Bool) (w : World) (h : ratchetbase_Within.f a0 a1 a2 = some r) :
    Calls Try.prog 48 #[.int .i64 a0, .int .i64 a1, .int .i64 a2] w fun e w' => e = .returned (.bool r) ∧ Drawn0 w w' := by
  have H : (if a1 ≤ a0 then (some (decide (a0 ≤ a2))) else (some false)) = some r := h
  clear h
  by_cases c4 : a1 ≤ a0
  · rw [if_pos c4] at H
    have c4b0 : decide (a1 ≤ a0) = true := decide_eq_true c4
    clear c4
    obtain rfl := Option.some.inj H
    go_enter Try.func48, Try.ntmps48
    go_wp2
    go_ret
    exact ⟨by first | rfl | (simp; done) | (simp [*]; done), by repeat (first | exact Drawn0.refl _ | apply Drawn0.step)⟩
  · rw [if_neg c4] at H
    have c4b0 : decide (a1 ≤ a0) = false := decide_eq_false c4
    clear c4
    obtain rfl := Option.some.inj H
    go_enter Try.func48, Try.ntmps48
    go_wp2
    go_ret
    exact ⟨by first | rfl | (simp; done) | (simp [*]; done), by repeat (first | exact Drawn0.refl _ | apply Drawn0.step)⟩

/-! ### ratchetref03_isLiteral: function 59 -/
def ratchetref03_isLiteral.f (a0 : Int) (a1 : Int) : Option (Bool) := if a1 = 0 then (some false) else ((ratchetbase_Within.f a1 (wrap64 (-a0)) a0).bind fun t163 => (some t163))
set_option maxHeartbeats 8000000 in
set_option maxRecDepth 100000 in
theorem ratchetref03_isLiteral.calls (a0 : Int) (a1 : Int) (r : Bool) (w : World) (h : ratchetref03_isLiteral.f a0 a1 = some r) :
    Calls Try.prog 59 #[.int .i64 a0, .int .i64 a1] w fun e w' => e = .returned (.bool r) ∧ Drawn0 w w' := by
  have H : (if a1 = 0 then (some false) else ((ratchetbase_Within.f a1 (wrap64 (-a0)) a0).bind fun t163 => (some t163))) = some r := h
  clear h
  by_cases c3 : a1 = 0
  · rw [if_pos c3] at H
    have c3b0 : (a1 == 0) = true := beq_iff_eq.mpr c3
    have c3b1 : (a1 != 0) = false := bne_eq_false_iff_eq.mpr c3
    clear c3
    obtain rfl := Option.some.inj H
    go_enter Try.func59, Try.ntmps59
    go_wp2
    go_ret
    exact ⟨by first | rfl | (simp; done) | (simp [*]; done), by repeat (first | exact Drawn0.refl _ | apply Drawn0.step)⟩
  · rw [if_neg c3] at H
    have c3b0 : (a1 == 0) = false := beq_eq_false_iff_ne.mpr c3
    have c3b1 : (a1 != 0) = true := bne_iff_ne.mpr c3
    replace H := Option.bind_eq_some_iff.mp H
    obtain ⟨t163, A40, H⟩ := H
    replace H : (some t163) = some r := H
    have A4 := Aside0.mk A40
    clear A40
    obtain rfl := Option.some.inj H
    go_enter Try.func59, Try.ntmps59
    go_wp2_with (first | (go_at_call 48; (with_reducible refine (ratchetbase_Within.calls a1 (wrap64 (-a0)) a0 t163 _ A4.out).mono ?_); rintro e w' ⟨rfl, ⟨nd, rfl⟩⟩))
    go_ret
    exact ⟨by first | rfl | (simp; done) | (simp [*]; done), by repeat (first | exact Drawn0.refl _ | apply Drawn0.step)⟩

/-! ### ratchetbase_Size: function 71 -/
def ratchetbase_Size.f (a0 : Int) : Option (Int) := some (mx a0 (wrap64 (-a0)))
set_option maxHeartbeats 8000000 in
set_option maxRecDepth 100000 in
theorem ratchetbase_Size.calls (a0 : Int) (r : Int) (w : World) (h : ratchetbase_Size.f a0 = some r) :
    Calls Try.prog 71 #[.int .i64 a0] w fun e w' => e = .returned (.int .i64 r) ∧ Below w.heap.size w w' := by
  have HB := Aside0.mk (Below.refl w.heap.size w)
  have H : (some (mx a0 (wrap64 (-a0)))) = some r := h
  clear h
  obtain ⟨ji2, hji2⟩ : ∃ j_ : Int, (mx a0 (wrap64 (-a0))) = j_ := ⟨_, rfl⟩
  replace H : (some ji2) = some r := by first | (rw [hji2] at H; exact H) | (simp only [hji2] at H ⊢; exact H)
  have hji2_ : (if a0 < (wrap64 (-a0)) then (wrap64 (-a0)) else a0) = ji2 := hji2
  obtain rfl := Option.some.inj H
  go_enter Try.func71, Try.ntmps71
  go_wp2
  go_ret
  exact ⟨by first | rfl | (simp [errW_none, errW_some] <;> rfl) | (simp only [← hji2]; first | rfl | (simp [errW_none, errW_some] <;> rfl)) | (simp [*, errW_none, errW_some] <;> rfl), by repeat (first | (with_reducible first | exact HB.out | apply below_alloc | apply pw_below_drewN | apply below_drew1) | exact HB.out)⟩

end Go.Proofs.Ytapbkoolddnjgaa.PB
