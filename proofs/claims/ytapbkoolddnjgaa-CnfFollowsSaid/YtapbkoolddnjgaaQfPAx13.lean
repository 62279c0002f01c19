/- What the claim needs of PAx13: lemmas and contracts, cut by a program to what is used. -/
import Derived.Test.YtapbkoolddnjgaaQfPAx0
import Derived.Test.YtapbkoolddnjgaaQfPAx1
import Derived.Test.YtapbkoolddnjgaaQfPAx7
import Derived.Test.YtapbkoolddnjgaaQfPAx8
import Derived.Test.YtapbkoolddnjgaaQfPAx11
import Derived.Test.YtapbkoolddnjgaaQfPAx12
namespace Go.Proofs.Ytapbkoolddnjgaa.PA
open Go.RowKit Go.Proofs.YtapbkoolddnjgaaW.PrintWords Go.Proofs.YtapbkoolddnjgaaW.PrintLast Go.Proofs.YtapbkoolddnjgaaW.PrintMore Go.Proofs.Sl
attribute [local go_sem] max2_int min2_int max_two min_two max_three min_three max_four min_four
set_option linter.unusedVariables false
set_option linter.unusedSimpArgs false
def rowN {α : Type} (B : Nat) (d : Kd α) (e : TypeId) (v : Value) (xs : List α) : Asn where
  H F w := Kd.N d e w B F v xs ∧ ∀ b, F b → b < w.heap.size
  move hm h := ⟨Kd.N_step h.1 (fun k hk _ => hm k hk), fun b hb => lt_move (hm b hb) (h.2 b hb)⟩
  lt h hb := h.2 _ hb
theorem rowN_new {α : Type} {d : Kd α} {e : TypeId} {v : Value} {xs : List α} {ok : Nat → Prop} {w0 w w' : World} {L : List Asn} (h : St w0 w L) (hb : Below w.heap.size w w') (hr : Kd.N d e w' w.heap.size ok v xs) (hok : ∀ k, ok k → w.heap.size ≤ k) : St w0 w' (rowN w0.heap.size d e v xs :: L) :=
  h.new hb _ (fun b => w.heap.size ≤ b ∧ b < w'.heap.size) ⟨Kd.N_lower (Kd.N_mono (Kd.N_bound hr) (fun k hk => ⟨hok k hk.1, hk.2⟩)) h.below.size, fun b hb => hb.2⟩ (fun b hb => hb.1)
theorem rowN_form {α : Type} {B : Nat} {d : Kd α} {e : TypeId} {v : Value} {xs : List α} {w0 w : World} {L : List Asn} (h : St w0 w L) {i : Nat} (hi : L[i]? = some (rowN B d e v xs)) (hp : 0 < xs.length) : ∃ g c, v = .slice (some ⟨g, 0, none⟩) xs.length c ∧ xs.length ≤ c ∧ d.C w (some ⟨g, 0, none⟩) xs.length xs := by
  obtain ⟨F, hF, hl⟩ := h.holds hi
  obtain ⟨g, c, rfl, _⟩ := Kd.N_form hF.1 hp
  obtain ⟨_, h2, h3⟩ := Kd.N_reads' hF.1
  exact ⟨g, c, rfl, h2, h3⟩
theorem rowN_C {α : Type} {B : Nat} {d : Kd α} {e : TypeId} {A : Option Addr} {n c : Nat} {xs : List α} {w0 w : World} {L : List Asn} (h : St w0 w L) {i : Nat} (hi : L[i]? = some (rowN B d e (.slice A n c) xs)) : d.C w A xs.length xs := by
  obtain ⟨F, hF, hl⟩ := h.holds hi
  exact (Kd.N_reads' hF.1).2.2
theorem row_C {α : Type} {B : Nat} {d : Kd α} {e : TypeId} {A : Option Addr} {n c : Nat} {xs : List α} {w0 w : World} {L : List Asn} (h : St w0 w L) {i : Nat} (hi : L[i]? = some (row B d e (.slice A n c) xs)) : d.C w A xs.length xs := by
  obtain ⟨A', c', e1, _, hC⟩ := h.row_reads hi
  injection e1 with e1 _ _
  subst e1; exact hC
theorem C_take_ {α : Type} {d : Kd α} {w : World} {A : Option Addr} {n : Nat} {xs : List α} (h : d.C w A n xs) (m : Nat) (hm : m ≤ n) : d.C w A m (xs.take m) := by
  obtain ⟨hn, hl, hc⟩ := h
  refine ⟨by rw [List.length_take]; omega, by omega, fun hp => ?_⟩
  obtain ⟨ad, e, hcell⟩ := hc (by omega)
  refine ⟨ad, e, fun j p hj => hcell j p ?_⟩
  rw [List.getElem?_take] at hj
  split at hj
  · exact hj
  · simp at hj
def exF : List (List Int) := [[1,2],[-1,3],[-2,3],[-3]]
def exP : List S102 := [⟨0,1,1⟩,⟨4,2,2⟩,⟨5,3,3⟩]
theorem ex0 : ratchetlaw03_Formula.f = some (3, exF) := by decide +kernel
theorem ex1 : cnf_Propagated.f 3 exF [] = some ([-3,-1,2],2,0) := by decide +kernel
theorem ex2 : cnf_FirstModel.f 3 (exF.take 3) 10 = some ([0,1,1], 0) := by decide +kernel
theorem ex3 : cnf_CountModels.f 3 (exF.take 3) = some (3, 0) := by decide +kernel
theorem ex4 : ratchetlaw03_Proof.f = some exP := by rfl
theorem ex5 : cnf_CheckProof.f 3 exF exP = some (0, 0) := by
  have h : ckWell 3 exF exP = true := by decide +kernel
  unfold cnf_CheckProof.f; rw [if_pos h]
theorem ex6 : ratchetbase_Ints.f 4 [-3,-1,2] [-3,-1,2] = some true := by decide +kernel
theorem ex7 : ratchetbase_Ints.f 4 [0,1,1] [0,1,1] = some true := by decide +kernel
def ratchetlaw03_awake.f : Option Bool := some true
theorem aw31 (A : Option Addr) (c : Nat) (W : World) (hc : 4 ≤ c) (hC : Kd.C (Kd.slice 3 (Kd.int .i64)) W A 4 exF) :
    Calls Try.prog 31 #[.agg #[.int .i64 3, .slice A 4 c], .slice none 0 0] W fun e w' => ∃ v0, e = .returned (.tuple #[v0, .int .i64 2, .int .i64 0]) ∧ Kd.R (Kd.int .i64) 3 w' W.heap.size (fun _ => True) v0 [-3,-1,2] ∧ Below W.heap.size W w' :=
  cnf_Propagated.calls 3 A c exF none 0 [] [-3,-1,2] 2 0 W hC hc ⟨rfl, by simp, fun hp => absurd hp (by simp)⟩ (by simp) ex1
theorem aw33 (A : Option Addr) (c : Nat) (W : World) (hc : 3 ≤ c) (hC : Kd.C (Kd.slice 3 (Kd.int .i64)) W A 3 (exF.take 3)) :
    Calls Try.prog 33 #[.agg #[.int .i64 3, .slice A 3 c], .int .i64 10] W fun e w' => ∃ v0, e = .returned (.tuple #[v0, .int .i64 0]) ∧ Kd.R (Kd.int .i64) 3 w' W.heap.size (fun _ => True) v0 [0,1,1] ∧ Below W.heap.size W w' :=
  cnf_FirstModel.calls 3 A c (exF.take 3) 10 [0,1,1] 0 W hC hc ex2
theorem aw25 (A : Option Addr) (c : Nat) (W : World) (hc : 3 ≤ c) (hC : Kd.C (Kd.slice 3 (Kd.int .i64)) W A 3 (exF.take 3)) :
    Calls Try.prog 25 #[.agg #[.int .i64 3, .slice A 3 c]] W fun e w' => e = .returned (.tuple #[.int .i64 3, .int .i64 0]) ∧ Below W.heap.size W w' :=
  cnf_CountModels.calls 3 A c (exF.take 3) 3 0 W hC hc ex3
theorem aw34 (A : Option Addr) (c : Nat) (A1 : Option Addr) (c1 : Nat) (W : World) (hc : 4 ≤ c) (hC : Kd.C (Kd.slice 3 (Kd.int .i64)) W A 4 exF) (hc1 : 3 ≤ c1) (hC1 : k102.C W A1 3 exP) :
    Calls Try.prog 34 #[.agg #[.int .i64 3, .slice A 4 c], .slice A1 3 c1] W fun e w' => e = .returned (.tuple #[.int .i64 0, .int .i64 0]) ∧ Below W.heap.size W w' :=
  cnf_CheckProof.calls 3 A c exF A1 c1 exP 0 0 W hC hc hC1 hc1 ex5
theorem aw14 (A : Option Addr) (c : Nat) (A1 : Option Addr) (c1 : Nat) (x y z : Int) (W : World) (hc : 3 ≤ c) (hC : Kd.C (Kd.int .i64) W A 3 [x, y, z]) (hc1 : 3 ≤ c1) (hC1 : Kd.C (Kd.int .i64) W A1 3 [x, y, z]) (h : ratchetbase_Ints.f 4 [x, y, z] [x, y, z] = some true) :
    Calls Try.prog 14 #[.slice A 3 c, .slice A1 3 c1] W fun e w' => e = .returned (.bool true) ∧ Drawn0 W w' :=
  ratchetbase_Ints.calls 4 A c [x, y, z] A1 c1 [x, y, z] true W hC hc hC1 hc1 h
set_option maxHeartbeats 8000000 in
set_option maxRecDepth 100000 in
theorem ratchetlaw03_awake.calls (r : Bool) (w : World) (h : ratchetlaw03_awake.f = some r) : Calls Try.prog 6 #[] w fun e w' => e = .returned (.bool r) ∧ Below w.heap.size w w' := by
  obtain rfl : true = r := Option.some.inj h
  clear h
  have hu24 := Try.underlying24
  have H0 := Ak (St.start w)
  go_enter Try.func6, Try.ntmps6
  go_wp2_with fail
  with_reducible refine (ratchetlaw03_Formula.calls 3 exF _ ex0).mono ?_
  rintro e w1 ⟨v1, rfl, hN, hb⟩
  have H1 := Ak (rowN_new H0.out hb hN (fun _ h => h)); clear hN hb H0
  obtain ⟨g1, c1, rfl, hc1, hC1⟩ := rowN_form H1.out (i := 0) rfl (by decide)
  rw [show exF.length = 4 from rfl] at H1 hc1 hC1
  rw [show exF.length = 4 from rfl]
  have HC1 := Ak hC1; clear hC1
  go_wp2_with fail
  with_reducible refine (aw31 _ c1 _ hc1 HC1.out).mono ?_
  rintro e w2 ⟨l1, rfl, hR, hb⟩
  have H2 := Ak ((H1.out.row_new hb hR).drop 1); clear hb hR H1 HC1
  simp only [List.eraseIdx] at H2
  obtain ⟨A2, c2, rfl, hc2, _⟩ := H2.out.row_reads (i := 0) rfl
  rw [show ([-3, -1, 2] : List Int).length = 3 from rfl] at H2 hc2
  rw [show ([-3, -1, 2] : List Int).length = 3 from rfl]
  go_wp2_with fail
  with_reducible refine (ratchetlaw03_Formula.calls 3 exF _ ex0).mono ?_
  rintro e w3 ⟨v3, rfl, hN, hb⟩
  have H3 := Ak (rowN_new H2.out hb hN (fun _ h => h)); clear hN hb H2
  obtain ⟨g3, c3, rfl, hc3, _⟩ := rowN_form H3.out (i := 0) rfl (by decide)
  rw [show exF.length = 4 from rfl] at H3 hc3
  rw [show exF.length = 4 from rfl]
  have hc33 : 3 ≤ c3 := by omega
  have hc34 : (3 : Int) ≤ (c3 : Int) := by omega
  go_upto_region 3 with fail
  have H4 := Ak (H3.out.box_new 24 #[.int .i64 3, .slice (some ⟨g3, 0, none⟩) 4 c3]); clear H3
  generalize w3.heap.size = gf at H4 ⊢
  generalize World.alloc _ _ = w4 at H4 ⊢
  have q1 := H4.out.box_cell (i := 0) rfl 1
  have r1 := H4.out.box_free (i := 0) rfl 1
  simp only [List.getElem?_toArray, List.getElem?_cons_zero, List.getElem?_cons_succ] at q1
  go_upto_region 4 with fail
  clear q1 r1
  have H5 := Ak (H4.out.box_set (i := 0) rfl 1 (.slice (some ⟨g3, 0, none⟩) 3 c3)); clear H4
  simp only [List.set, La] at H5
  generalize World.setCell _ _ _ = w5 at H5 ⊢
  have q0 := H5.out.box_cell (i := 0) rfl 0
  have q1 := H5.out.box_cell (i := 0) rfl 1
  simp only [List.getElem?_toArray, List.getElem?_cons_zero, List.getElem?_cons_succ] at q0 q1
  have HC := Ak (C_take_ (rowN_C H5.out (i := 1) rfl) 3 (by decide))
  go_wp2_with fail
  with_reducible refine (aw33 _ c3 _ hc33 HC.out).mono ?_
  clear q0 q1
  rintro e w6 ⟨l6, rfl, hR, hb⟩
  have H6 := Ak (H5.out.row_new hb hR); clear hb hR H5 HC
  obtain ⟨A6, c6, rfl, hc6, _⟩ := H6.out.row_reads (i := 0) rfl
  rw [show ([0, 1, 1] : List Int).length = 3 from rfl] at H6 hc6
  rw [show ([0, 1, 1] : List Int).length = 3 from rfl]
  have q0 := H6.out.box_cell (i := 1) rfl 0
  have q1 := H6.out.box_cell (i := 1) rfl 1
  simp only [List.getElem?_toArray, List.getElem?_cons_zero, List.getElem?_cons_succ] at q0 q1
  have HC := Ak (C_take_ (rowN_C H6.out (i := 2) rfl) 3 (by decide))
  go_wp2_with fail
  with_reducible refine (aw25 _ c3 _ hc33 HC.out).mono ?_
  clear q0 q1
  rintro e w7 ⟨rfl, hb⟩
  have H7 := Ak ((H6.out.mv hb).drop 1); clear hb H6 HC
  simp only [List.eraseIdx] at H7
  have H8 := Ak (H7.out.drop 1); clear H7
  simp only [List.eraseIdx] at H8
  go_wp2_with fail
  with_reducible refine (ratchetlaw03_Formula.calls 3 exF _ ex0).mono ?_
  rintro e w9 ⟨v9, rfl, hN, hb⟩
  have H9 := Ak (rowN_new H8.out hb hN (fun _ h => h)); clear hN hb H8
  obtain ⟨g9, c9, rfl, hc9, _⟩ := rowN_form H9.out (i := 0) rfl (by decide)
  rw [show exF.length = 4 from rfl] at H9 hc9
  rw [show exF.length = 4 from rfl]
  go_wp2_with fail
  with_reducible refine (ratchetlaw03_Proof.calls exP _ ex4).mono ?_
  rintro e w10 ⟨v10, rfl, hR, hb⟩
  have H10 := Ak (H9.out.row_new hb hR); clear hR hb H9
  obtain ⟨A10, c10, rfl, hc10, _⟩ := H10.out.row_reads (i := 0) rfl
  rw [show exP.length = 3 from rfl] at H10 hc10
  rw [show exP.length = 3 from rfl]
  have HC := Ak (rowN_C H10.out (i := 1) rfl); have HCP := Ak (row_C H10.out (i := 0) rfl)
  go_wp2_with fail
  with_reducible refine (aw34 _ c9 _ c10 _ hc9 HC.out hc10 HCP.out).mono ?_
  rintro e w11 ⟨rfl, hb⟩
  have H11 := Ak (((H10.out.mv hb).drop 0).drop 0); clear hb H10 HC HCP
  simp only [List.eraseIdx] at H11
  go_wp2_with fail
  have H12 := Ak (H11.out.box_new 3 #[.int .i64 (-3), .int .i64 (-1), .int .i64 2]); clear H11
  generalize w11.heap.size = g12 at H12 ⊢
  generalize World.alloc _ _ = w12 at H12 ⊢
  have HC := Ak (row_C H12.out (i := 2) rfl); have HCB := Ak (C_of_block (k := .i64) (xs := [-3, -1, 2]) (H12.out.box_at (i := 0) rfl).1 (by simp))
  with_reducible refine (aw14 _ c2 _ 3 (-3) (-1) 2 _ hc2 HC.out (by omega) HCB.out ex6).mono ?_
  rintro e w13 ⟨rfl, hb⟩
  have H13 := Ak ((H12.out.mv hb.below).drop 0); clear hb H12 HC HCB
  simp only [List.eraseIdx] at H13
  go_wp2_with fail
  have H14 := Ak (H13.out.box_new 3 #[.int .i64 0, .int .i64 1, .int .i64 1]); clear H13
  generalize w13.heap.size = g14 at H14 ⊢
  generalize World.alloc _ _ = w14 at H14 ⊢
  have HC := Ak (row_C H14.out (i := 1) rfl); have HCB := Ak (C_of_block (k := .i64) (xs := [0, 1, 1]) (H14.out.box_at (i := 0) rfl).1 (by simp))
  with_reducible refine (aw14 _ c6 _ 3 0 1 1 _ hc6 HC.out (by omega) HCB.out ex7).mono ?_
  rintro e w15 ⟨rfl, hb⟩
  have H15 := Ak (H14.out.mv hb.below); clear hb H14 HC HCB
  go_wp2
  go_ret
  exact ⟨rfl, H15.out.below⟩
def ratchetbase_CopyInts.f (l0 : List Int) : Option (List Int) := (some (([] : List Int) : List Int)).bind fun y145 => (if y145.length + l0.length < 17592186044416 then (some (y145 ++ l0)) else (none))
set_option maxHeartbeats 8000000 in
set_option maxRecDepth 100000 in
theorem ratchetbase_CopyInts.calls (A0 : Option Addr) (c0 : Nat) (l0 : List Int) (r : List Int) (w : World) (hr0 : Kd.C (Kd.int .i64) w A0 l0.length l0) (hc0 : l0.length ≤ c0) (h : ratchetbase_CopyInts.f l0 = some r) :
    Calls Try.prog 11 #[.slice A0 l0.length c0] w fun e w' => ∃ v0_ : Value, e = .returned (v0_) ∧ Kd.R (Kd.int .i64) 3 w' w.heap.size (fun _ => True) v0_ r ∧ Below w.heap.size w w' := by
  have HR0 := Ak hr0
  have HC0 := Ak hc0
  clear hr0 hc0
  have HB := Ak (Below.refl w.heap.size w)
  have H : ((some (([] : List Int) : List Int)).bind fun y145 => (if y145.length + l0.length < 17592186044416 then (some (y145 ++ l0)) else (none))) = some r := h
  clear h
  obtain ⟨y145, hy145⟩ : ∃ y_ : List Int, y_ = (([] : List Int)) := ⟨_, rfl⟩
  replace H : (if y145.length + l0.length < 17592186044416 then (some (y145 ++ l0)) else (none)) = some r := by first | (rw [hy145]; with_reducible exact H) | (have H2_ := (Option.bind_some _ _).symm.trans H; rw [hy145]; with_reducible exact H2_) | (have H2_ := (Option.bind_some _ _).symm.trans H; with_reducible exact H2_) | with_reducible exact H | (rw [hy145]; exact H) | exact H
  have Ny145 := Ak hy145
  clear hy145
  by_cases c2 : y145.length + l0.length < 17592186044416
  · rw [if_pos c2] at H
    have LMc2 := Ak c2
    clear c2
    obtain ⟨y148, hy148⟩ : ∃ y_ : List Int, y_ = (y145 ++ l0) := ⟨_, rfl⟩
    replace H : (some y148) = some r := by first | (rw [hy148]; with_reducible exact H) | (have H2_ := (Option.bind_some _ _).symm.trans H; rw [hy148]; with_reducible exact H2_) | (have H2_ := (Option.bind_some _ _).symm.trans H; with_reducible exact H2_) | with_reducible exact H | (rw [hy148]; exact H) | exact H
    have Ny148 := Ak hy148
    clear hy148
    obtain rfl := Option.some.inj H
    go_enter Try.func11, Try.ntmps11
    go_wp2_with (first | ((with_reducible refine gate_dst (N := 3) rfl ?_); refine Kd.R_lit (Kd.int .i64) _ 3 ?hg (N := 3) ?hd (xs := ([] : List Int)) (inner := []) (ok := fun _ => True) (okp := fun _ => True) ?hr ?hp (fun _ hk => hk) trivial (Below.refl _ _) (Nat.le_refl _) (by simp) ?_; (case hd => rfl); (case hg => rfl); (case hr => first | (go_simp; done) | (go_simp; rfl)); (case hp => exact (Reps.none _ _)); intro v146 w3 ho4 hb hg_ hnew_; clear hg_ hnew_; (first | rw [← Ny145.out] at ho4 | (simp only [Int.reduceToNat] at ho4; rw [← Ny145.out] at ho4)); have n0_ := Ak (Kd.R_lower ho4 (below_size (by repeat (first | (with_reducible first | exact HB.out | apply below_alloc | apply pw_below_drewN | apply below_drew1) | exact HB.out)))); have n1_ := Ak (below_step (by repeat (first | (with_reducible first | exact HB.out | apply below_alloc | apply pw_below_drewN | apply below_drew1) | exact HB.out)) hb); clear HB; have HO147 := n0_; have HB := n1_; clear n0_ n1_; clear hb ho4) | ((with_reducible refine gate_builtin (b := .append) (xs := #[.tmp 3, .tmp 4]) rfl ?_); at_builtin; refine Kd.R_append_rows (Kd.int .i64) (w0 := w) w.heap.size rfl (.tmp 3) (.tmp 4) 25 3 (.int .i64 0) 8 rfl Try.underlying25 info3 rfl (by decide) (by omega) v146 y145 l0 _ _ _ (fun _ => True) (fun _ => False) rfl rfl ?aO ?aR (fun _ _ h => h) (fun _ h => h.elim) ?aF ?aB ?aS ?aL ?_; (case aR => repeat (first | exact (Kd.C_below HR0.out HB.out) | (with_reducible refine Kd.C_alloc ?_ _) | (with_reducible refine Kd.C_drewN ?_ _) | (with_reducible refine Kd.C_drew ?_))); (case aB => exact (by repeat (first | (with_reducible first | exact HB.out | apply below_alloc | apply pw_below_drewN | apply below_drew1) | exact HB.out))); (case aF => exact (fun _ _ => trivial)); (case aO => exact (by (with_reducible repeat (first | apply Kd.R_alloc | apply Kd.R_drewN | apply Kd.R_drew)); exact HO147.out)); (case aS => exact (below_size (by repeat (first | (with_reducible first | exact HB.out | apply below_alloc | apply pw_below_drewN | apply below_drew1) | exact HB.out)))); (case aL => have := LMc2.out; omega); intro v149 w5 ho hb hg hat; rw [← Ny148.out] at ho; have n0_ := Ak (hb); have n1_ := Ak (ho); clear HB; clear HO147; have HB := n0_; have HO150 := n1_; clear n0_ n1_; clear ho hb hg hat))
    go_ret
    exact ⟨_, by first | rfl | (simp [errW_none, errW_some] <;> rfl) | (simp [*, errW_none, errW_some] <;> rfl), by (with_reducible repeat (first | apply Kd.R_alloc | apply Kd.R_drewN | apply Kd.R_drew)); exact HO150.out, by repeat (first | (with_reducible first | exact HB.out | apply below_alloc | apply pw_below_drewN | apply below_drew1) | exact HB.out)⟩
  · rw [if_neg c2] at H
    exact absurd H (by simp)
def ratchetbase_CopyLists.l0 : Nat → List (List Int) → List (List Int) → Int → Option ((List (List Int)))
  | 0, _, _, _ => none
  | k + 1, x0, x3, x4 => if x4 < (x0.length : Int) then (if 0 ≤ x4 then ((ratchetbase_CopyInts.f (rd_L1 x0 x4)).bind fun t152 => (if x3.length < 5864062014805 then (ratchetbase_CopyLists.l0 k x0 (x3 ++ [t152]) (wrap64 (x4 + 1))) else (none))) else (none)) else (some x3)
def ratchetbase_CopyLists.f (k : Nat) (l0 : List (List Int)) : Option ((List (List Int))) := ratchetbase_CopyLists.l0 k l0 ([] : List (List Int)) 0
set_option maxHeartbeats 8000000 in
set_option maxRecDepth 100000 in
theorem ratchetbase_CopyLists.calls (k : Nat) (A0 : Option Addr) (c0 : Nat) (l0 : List (List Int)) (r : List (List Int)) (w : World) (hr0 : Kd.C (Kd.slice 3 (Kd.int .i64)) w A0 l0.length l0) (hc0 : l0.length ≤ c0) (h : ratchetbase_CopyLists.f k l0 = some r) :
    Calls Try.prog 42 #[.slice A0 l0.length c0] w fun e w' => ∃ v0_ : Value, e = .returned (v0_) ∧ Kd.S (Kd.slice 3 (Kd.int .i64)) 25 w' w.heap.size (fun _ => True) v0_ r ∧ Below w.heap.size w w' := by
  have HR0 := Ak hr0
  have HC0 := Ak hc0
  clear hr0 hc0
  have HB := Ak (Below.refl w.heap.size w)
  have H : (ratchetbase_CopyLists.l0 k l0 ([] : List (List Int)) 0) = some r := h
  clear h
  have H' := Ak H
  clear H
  go_enter Try.func42, Try.ntmps42
  go_wp2
  go_loopg [3, 4] k (fun kq v3 v4 w' => ∃ (x3_1 : List (List Int)) (x4_1 : Int), v4 = .int .i64 x4_1 ∧ Aside0 (ratchetbase_CopyLists.l0 kq l0 x3_1 x4_1 = some r) ∧ Aside0 (kq ≤ k) ∧ Aside0 (Kd.S (Kd.slice 3 (Kd.int .i64)) 25 w' w.heap.size (fun _ => True) v3 x3_1) ∧ Aside0 (Below w.heap.size w w'))
  case atStart => exact ⟨(([] : List (List Int))), (0), (by first | rfl | (simp; done) | (simp [*]; done)), H', ⟨Nat.le_refl _⟩, ⟨by first | exact Kd.S_nil _ _ _ _ _ | exact Kd.N_nil _ _ _ _ _ | exact Kd.V_nil _ _ _ _ _ | exact Kd.Q_nil _ _ _ _ _ | exact Kd.R_nil _ _ _ _ _⟩, ⟨by repeat (first | (with_reducible first | exact HB.out | apply below_alloc | apply pw_below_drewN | apply below_drew1) | exact HB.out)⟩⟩
  case round =>
    clear H'
    obtain ⟨x3_1, x4_1, rfl, HA, HK1, HO_3, HB⟩ := hrel
    cases gk with
    | zero => exact absurd HA.out (by simp [ratchetbase_CopyLists.l0])
    | succ k1 =>
      have H := HA.out
      clear HA
      simp only [ratchetbase_CopyLists.l0] at H
      by_cases c2 : x4_1 < (l0.length : Int)
      · rw [if_pos c2] at H
        have c2b0 : decide (x4_1 < (l0.length : Int)) = true := decide_eq_true c2
        clear c2
        by_cases c3 : 0 ≤ x4_1
        · rw [if_pos c3] at H
          have c3b0 : decide (0 ≤ x4_1) = true := decide_eq_true c3
          clear c3
          replace H := Option.bind_eq_some_iff.mp H
          obtain ⟨t152, A40, H⟩ := H
          replace H : (if x3_1.length < 5864062014805 then (ratchetbase_CopyLists.l0 k1 l0 (x3_1 ++ [t152]) (wrap64 (x4_1 + 1))) else (none)) = some r := H
          have A4 := Ak A40
          clear A40
          by_cases c5 : x3_1.length < 5864062014805
          · rw [if_pos c5] at H
            have LMc5 := Ak c5
            clear c5
            obtain ⟨y155, hy155⟩ : ∃ y_ : List (List Int), y_ = (x3_1 ++ [t152]) := ⟨_, rfl⟩
            replace H : (ratchetbase_CopyLists.l0 k1 l0 y155 (wrap64 (x4_1 + 1))) = some r := by first | (rw [hy155]; with_reducible exact H) | (have H2_ := (Option.bind_some _ _).symm.trans H; rw [hy155]; with_reducible exact H2_) | (have H2_ := (Option.bind_some _ _).symm.trans H; with_reducible exact H2_) | with_reducible exact H | (rw [hy155]; exact H) | exact H
            have Ny155 := Ak hy155
            clear hy155
            have H' := Ak H
            clear H
            have p151 : 0 ≤ (x4_1 : Int) := of_decide_eq_true (by first | (with_reducible assumption) | assumption)
            have q151 : x4_1 < (l0.length : Int) := of_decide_eq_true (by first | (with_reducible assumption) | assumption)
            obtain ⟨ad151, A151_0, c151_0, e151, hx151_0, hl151_0, hi151_0⟩ := at_L1 HR0.out x4_1 p151 q151
            cases e151
            replace hx151_0 := (HB.out.cell (World.block_lt_of_cell? w _ hx151_0)).trans hx151_0
            have HR151_0 := Ak hi151_0
            have HC151_0 := Ak hl151_0
            clear hi151_0 hl151_0
            replace p151 := eq_true p151
            replace q151 := eq_true q151
            go_wp2_with (first | ((with_reducible refine gate_callee (f := 11) rfl ?_); refine goesL_ (some 16) rfl rfl Try.func11 (by kernel_rfl) rfl #[.slice A151_0 (rd_L1 l0 x4_1).length c151_0] rfl (by (try simp only [List.map_toArray, List.map_cons, List.map_nil]); first | done | rfl | (simp only [List.length_drop, List.length_take]; rfl)) ?_; (with_reducible refine (ratchetbase_CopyInts.calls _ _ (rd_L1 l0 x4_1) t152 _ ?side1 ?side2 A4.out).mono ?_); (case side1 => repeat (first | exact (Kd.C_below HR151_0.out HB.out) | (with_reducible refine Kd.C_alloc ?_ _) | (with_reducible refine Kd.C_drewN ?_ _) | (with_reducible refine Kd.C_drew ?_))); (case side2 => exact HC151_0.out); rintro e w6 ⟨v153, rfl, ho0, hb⟩; refine ⟨_, rfl, ?_⟩; have n0_ := Ak (Kd.S_elder' (by (with_reducible repeat (first | apply Kd.S_alloc | apply Kd.S_drewN | apply Kd.S_drew)); exact HO_3.out) (Kd.R_base ho0) hb); have n1_ := Ak (Kd.R_lower ho0 (below_size (by repeat (first | (with_reducible first | exact HB.out | apply below_alloc | apply pw_below_drewN | apply below_drew1) | exact HB.out)))); have n2_ := Ak (below_step (by repeat (first | (with_reducible first | exact HB.out | apply below_alloc | apply pw_below_drewN | apply below_drew1) | exact HB.out)) hb); clear HO_3; clear HB; have HO_3 := n0_; have HO154 := n1_; have HB := n2_; clear n0_ n1_ n2_; (try clear hb); (try clear hb2); (try clear hk); (try clear hi); (try clear ho0); obtain ⟨Ao8, co8, eo8⟩ := Kd.R_slice HO154.out; subst eo8) | ((with_reducible refine gate_builtin (b := .append) (xs := #[.tmp 11, .tmp 17]) rfl ?_); at_builtin; refine Kd.S_append (Kd.slice 3 (Kd.int .i64)) (w0 := w) w.heap.size rfl (.tmp 11) (.tmp 17) 22 25 (.slice none 0 0) 24 rfl Try.underlying22 info25 rfl (by decide) (by omega) u3 x3_1 t152 [.slice Ao8 t152.length co8] (fun _ => True) (fun k_ => some k_ = (.slice Ao8 t152.length co8 : Value).ownBlock) rfl rfl ?aP (fun k_ hk_ => ((Kd.R_mono (ok' := fun k_ => ((fun _ => True)) k_ ∧ some k_ ≠ (u3 : Value).ownBlock) (Kd.R_apart' (HO154.out) (Kd.S_typed HO_3.out) (by decide)) (fun k_ hk => ⟨trivial, hk.2⟩))).1 k_ hk_.symm) ?aF ?aO ?aB ?aS ?aL ?_; (case aP => exact Kd.M_row (Kd.R_mono (Kd.R_tight rfl (Kd.R_mono (ok' := fun k_ => ((fun _ => True)) k_ ∧ some k_ ≠ (u3 : Value).ownBlock) (Kd.R_apart' (HO154.out) (Kd.S_typed HO_3.out) (by decide)) (fun k_ hk => ⟨trivial, hk.2⟩))) (fun _ h_ => h_))); (case aB => exact (by repeat (first | (with_reducible first | exact HB.out | apply below_alloc | apply pw_below_drewN | apply below_drew1) | exact HB.out))); (case aF => exact (fun _ _ => trivial)); (case aO => exact (by (with_reducible repeat (first | apply Kd.S_alloc | apply Kd.S_drewN | apply Kd.S_drew)); exact Kd.S_mono HO_3.out (fun k_ hk => ⟨trivial, fun e_ => hk.2 e_⟩))); (case aS => exact (below_size (by repeat (first | (with_reducible first | exact HB.out | apply below_alloc | apply pw_below_drewN | apply below_drew1) | exact HB.out)))); (case aL => have := LMc5.out; omega); intro v156 w7 ho hb hg hat; rw [← Ny155.out] at ho; have n0_ := Ak (hb); have n1_ := Ak (ho); clear HB; clear HO_3; clear HO154; have HB := n0_; have HO157 := n1_; clear n0_ n1_; clear ho hb hg hat))
            go_roundg k1
            case measure => have := HK1.out; omega
            case rel => exact ⟨(y155), (wrap64 (x4_1 + 1)), (by first | rfl | (simp; done) | (simp [*]; done)), H', ⟨by have := HK1.out; omega⟩, ⟨by (with_reducible repeat (first | apply Kd.S_alloc | apply Kd.S_drewN | apply Kd.S_drew)); exact HO157.out⟩, ⟨by repeat (first | (with_reducible first | exact HB.out | apply below_alloc | apply pw_below_drewN | apply below_drew1) | exact HB.out)⟩⟩
          · rw [if_neg c5] at H
            exact absurd H (by simp)
        · rw [if_neg c3] at H
          exact absurd H (by simp)
      · rw [if_neg c2] at H
        have c2b0 : decide (x4_1 < (l0.length : Int)) = false := decide_eq_false c2
        clear c2
        obtain rfl := Option.some.inj H
        go_wp2
        go_ret
        exact ⟨_, by first | rfl | (simp [errW_none, errW_some] <;> rfl) | (simp [*, errW_none, errW_some] <;> rfl), by (with_reducible repeat (first | apply Kd.S_alloc | apply Kd.S_drewN | apply Kd.S_drew)); exact HO_3.out, by repeat (first | (with_reducible first | exact HB.out | apply below_alloc | apply pw_below_drewN | apply below_drew1) | exact HB.out)⟩
def ratchetref03_Copy.f (k : Nat) (a0_0 : Int) (l0_1 : List (List Int)) : Option (Int × (List (List Int))) := (ratchetbase_CopyLists.f k l0_1).bind fun t160 => (some (a0_0, t160))
set_option maxHeartbeats 8000000 in
set_option maxRecDepth 100000 in
theorem ratchetref03_Copy.calls (k : Nat) (a0_0 : Int) (A0_1 : Option Addr) (c0_1 : Nat) (l0_1 : List (List Int)) (r1 : Int) (r2 : List (List Int)) (w : World) (hr0_1 : Kd.C (Kd.slice 3 (Kd.int .i64)) w A0_1 l0_1.length l0_1) (hc0_1 : l0_1.length ≤ c0_1) (h : ratchetref03_Copy.f k a0_0 l0_1 = some (r1, r2)) :
    Calls Try.prog 9 #[.agg #[.int .i64 a0_0, .slice A0_1 l0_1.length c0_1]] w fun e w' => ∃ v1_ : Value, e = .returned (.agg #[.int .i64 r1, v1_]) ∧ Kd.S (Kd.slice 3 (Kd.int .i64)) 25 w' w.heap.size (fun _ => True) v1_ r2 ∧ Below w.heap.size w w' := by
  have hu24 := Try.underlying24
  have HR0_1 := Ak hr0_1
  have HC0_1 := Ak hc0_1
  clear hr0_1 hc0_1
  have HB := Ak (Below.refl w.heap.size w)
  have H : ((ratchetbase_CopyLists.f k l0_1).bind fun t160 => (some (a0_0, t160))) = some (r1, r2) := h
  clear h
  replace H := Option.bind_eq_some_iff.mp H
  obtain ⟨t160, A20, H⟩ := H
  replace H : (some (a0_0, t160)) = some (r1, r2) := H
  have A2 := Ak A20
  clear A20
  simp only [Option.some.injEq, Prod.mk.injEq] at H
  obtain ⟨rfl, rfl⟩ := H
  go_enter Try.func9, Try.ntmps9
  try go_wp2_with (first | ((with_reducible refine gate_dst (N := 1) rfl ?_); refine box_event ?hg (N := 1) ?hd (cs := #[.int .i64 a0_0, .slice A0_1 l0_1.length c0_1]) (t := 24) ?hr ?_; (case hd => rfl); (case hg => rfl); (case hr => first | (go_simp; done) | (go_simp; rfl)); intro gb158 hg w3 hbox hb; have n0_ := Ak (below_step (by repeat (first | (with_reducible first | exact HB.out | apply below_alloc | apply pw_below_drewN | apply below_drew1) | exact HB.out)) hb); have n1_ := Ak (hbox); have n2_ := Ak ((by rw [hg]; exact (below_size (by repeat (first | (with_reducible first | exact HB.out | apply below_alloc | apply pw_below_drewN | apply below_drew1) | exact HB.out))) : w.heap.size ≤ gb158)); have n3_ := Ak ((by rw [hg]; exact (below_size (by repeat (first | (with_reducible first | exact HB.out | apply below_alloc | apply pw_below_drewN | apply below_drew1) | exact HB.out))) : w.heap.size ≤ gb158)); clear HB; have HB := n0_; have BK158 := n1_; have GW158 := n2_; have GE158 := n3_; clear n0_ n1_ n2_ n3_; clear hb hbox hg) | ((with_reducible refine gate_dst (N := 2) rfl ?_); refine box_event ?hg (N := 2) ?hd (cs := #[.int .i64 0, .slice none 0 0]) (t := 24) ?hr ?_; (case hd => rfl); (case hg => rfl); (case hr => first | (go_simp; done) | (go_simp; rfl)); intro gb159 hg w4 hbox hb; have n0_ := Ak (blk_below (g := gb158) (o := .cells #[.int .i64 a0_0, .slice A0_1 l0_1.length c0_1] 24 (0, 0)) (by (with_reducible repeat (first | refine blk_drewN ?_ _ | refine blk_drew ?_ | refine blk_alloc ?_ _)); exact BK158.out) hb); have n1_ := Ak (below_step (by repeat (first | (with_reducible first | exact HB.out | apply below_alloc | apply pw_below_drewN | apply below_drew1 | refine below_set ?_ GE158.out) | exact HB.out)) hb); have n2_ := Ak (hbox); have n3_ := Ak ((by rw [hg]; exact (below_size (by repeat (first | (with_reducible first | exact HB.out | apply below_alloc | apply pw_below_drewN | apply below_drew1 | refine below_set ?_ GE158.out) | exact HB.out))) : w.heap.size ≤ gb159)); have n4_ := Ak ((by rw [hg]; exact (below_size (by repeat (first | (with_reducible first | exact HB.out | apply below_alloc | apply pw_below_drewN | apply below_drew1 | refine below_set ?_ GE158.out) | exact HB.out))) : w.heap.size ≤ gb159)); have n5_ := Ak ((by rw [hg]; exact Nat.ne_of_lt (blk_lt (g := gb158) (o := .cells #[.int .i64 a0_0, .slice A0_1 l0_1.length c0_1] 24 (0, 0)) (by (with_reducible repeat (first | refine blk_drewN ?_ _ | refine blk_drew ?_ | refine blk_alloc ?_ _)); exact BK158.out)) : gb158 ≠ gb159)); have n6_ := Ak ((by rw [hg]; exact Nat.ne_of_gt (blk_lt (g := gb158) (o := .cells #[.int .i64 a0_0, .slice A0_1 l0_1.length c0_1] 24 (0, 0)) (by (with_reducible repeat (first | refine blk_drewN ?_ _ | refine blk_drew ?_ | refine blk_alloc ?_ _)); exact BK158.out)) : gb159 ≠ gb158)); clear BK158; clear HB; have BK158 := n0_; have HB := n1_; have BK159 := n2_; have GW159 := n3_; have GE159 := n4_; have NB158_159 := n5_; have NB159_158 := n6_; clear n0_ n1_ n2_ n3_ n4_ n5_ n6_; clear hb hbox hg))
  have n0_ := Ak (blk_drew BK158.out)
  have n1_ := Ak (blk_drew BK159.out)
  have n2_ := Ak (below_drew1 HB.out)
  clear BK158
  clear BK159
  clear HB
  have BK158 := n0_
  have BK159 := n1_
  have HB := n2_
  clear n0_ n1_ n2_
  refine start_ (n := 7) (S := fun w' => w'.cell? ⟨gb158, 0, none⟩ = some (.int .i64 a0_0) ∧ w'.cell? ⟨gb158, 1, none⟩ = some (.slice A0_1 l0_1.length c0_1)) (ds := []) #[false, false, false, false, false, false, false] (by kernel_rfl) rfl rfl ⟨(blk_cell BK158.out 0).trans rfl, (blk_cell BK158.out 1).trans rfl⟩ (fun hHeld => ?_)
  generalize w4.drew = w5 at BK158 BK159 HB hHeld ⊢
  refine pure_ (i := 0) (N := some 3) (v := ?_) (a' := ?_) #[true, false, false, false, false, false, false] rfl rfl (by kernel_rfl) (fun _ _ _ h => h) (Or.inl ⟨by rfl, ?_⟩) ?_ ?_
  rotate_left
  · intro w'
    go_simp
    with_reducible rfl
  rotate_left
  · simp only [Act.put, La, Lb, Lc, i64_w, i32_w]
    rfl
  refine pure_ (i := 2) (N := some 5) (v := ?_) (a' := ?_) #[true, false, true, false, false, false, false] rfl rfl (by kernel_rfl) (fun _ _ _ h => h) (Or.inl ⟨by rfl, ?_⟩) ?_ ?_
  rotate_left
  · intro w'
    go_simp
    with_reducible rfl
  rotate_left
  · simp only [Act.put, La, Lb, Lc, i64_w, i32_w]
    rfl
  refine take_ (i := 1) (N := some 4) (v := ?_) (a' := ?_) #[true, true, true, false, false, false, false] rfl rfl (by kernel_rfl) (fun _ _ _ h => h) (Or.inl ⟨by rfl, ?_⟩) hHeld ?_ ?_
  rotate_left
  · rintro w' ⟨s0, s1⟩
    go_simp
    with_reducible rfl
  rotate_left
  · simp only [Act.put, La, Lb, Lc, i64_w, i32_w]
    rfl
  refine take_ (i := 3) (N := some 6) (v := ?_) (a' := ?_) #[true, true, true, true, false, false, false] rfl rfl (by kernel_rfl) (fun _ _ _ h => h) (Or.inl ⟨by rfl, ?_⟩) hHeld ?_ ?_
  rotate_left
  · rintro w' ⟨s0, s1⟩
    go_simp
    with_reducible rfl
  rotate_left
  · simp only [Act.put, La, Lb, Lc, i64_w, i32_w]
    rfl
  refine one_ (i := 4) (N := some 7) #[true, true, true, true, true, false, false] rfl rfl (by kernel_rfl) (by decide) (fun K hK => ?_)
  refine goes_ Try.func42 (by kernel_rfl) rfl #[.slice A0_1 l0_1.length c0_1] (by rfl) rfl rfl (by (try simp only [List.map_toArray, List.map_cons, List.map_nil]); first | done | rfl | (simp only [List.length_drop, List.length_take]; rfl)) ?_
  with_reducible refine (ratchetbase_CopyLists.calls k _ _ l0_1 t160 _ ?side1 ?side2 A2.out).mono ?_
  (case side1 => repeat (first | exact (Kd.C_below HR0_1.out HB.out) | (with_reducible refine Kd.C_alloc ?_ _) | (with_reducible refine Kd.C_drewN ?_ _) | (with_reducible refine Kd.C_drew ?_)))
  (case side2 => exact HC0_1.out)
  rintro e w6 ⟨v161, rfl, ho0, hb⟩
  refine ⟨_, rfl, ?_⟩
  have n0_ := Ak (Kd.S_lower ho0 (below_size (by repeat (first | (with_reducible first | exact HB.out | apply below_alloc | apply pw_below_drewN | apply below_drew1 | refine below_set ?_ GE158.out | refine below_set ?_ GE159.out) | exact HB.out))))
  have n1_ := Ak (blk_below (g := gb158) (o := .cells #[.int .i64 a0_0, .slice A0_1 l0_1.length c0_1] 24 (0, 0)) (by (with_reducible repeat (first | refine blk_drewN ?_ _ | refine blk_drew ?_ | refine blk_alloc ?_ _)); exact BK158.out) hb)
  have n2_ := Ak (blk_below (g := gb159) (o := .cells #[.int .i64 0, .slice none 0 0] 24 (0, 0)) (by (with_reducible repeat (first | refine blk_drewN ?_ _ | refine blk_drew ?_ | refine blk_alloc ?_ _)); exact BK159.out) hb)
  have n3_ := Ak (below_step (by repeat (first | (with_reducible first | exact HB.out | apply below_alloc | apply pw_below_drewN | apply below_drew1 | refine below_set ?_ GE158.out | refine below_set ?_ GE159.out) | exact HB.out)) hb)
  clear BK158
  clear BK159
  clear HB
  have HO162 := n0_
  have BK158 := n1_
  have BK159 := n2_
  have HB := n3_
  clear n0_ n1_ n2_ n3_
  (try clear hb)
  (try clear hb2)
  (try clear hk)
  (try clear hi)
  (try clear ho0)
  obtain ⟨Ao7, co7, eo7⟩ := Kd.S_slice HO162.out
  (first | subst eo7 | (injection eo7 with f1_ f2_ f3_; have f4_ := f1_.symm; have f5_ := f3_.symm; clear f1_ f2_ f3_; subst f4_; subst f5_))
  refine hK.out _ _ ⟨(blk_cell BK158.out 0).trans rfl, (blk_cell BK158.out 1).trans rfl⟩ (fun hHeld => ?_)
  clear hK K
  refine norm_ (a' := ?_) ?_ ?_
  rotate_left
  · show Act.put _ (some 7) _ = _
    simp only [Act.put, La, Lb, Lc, i64_w, i32_w]
    rfl
  refine pure_ (i := 5) (N := some 8) (v := ?_) (a' := ?_) #[true, true, true, true, true, true, false] rfl rfl (by kernel_rfl) (fun _ _ _ h => h) (Or.inl ⟨by rfl, ?_⟩) ?_ ?_
  rotate_left
  · intro w'
    go_simp
    with_reducible rfl
  rotate_left
  · simp only [Act.put, La, Lb, Lc, i64_w, i32_w]
    rfl
  refine one_ (i := 6) (N := none) #[true, true, true, true, true, true, true] rfl rfl (by kernel_rfl) (by decide) (fun K hK => ?_)
  have hs8 : w6.cell? ⟨gb159, 0, none⟩ = some (.int .i64 0) := (blk_cell BK159.out 0).trans rfl
  have hfs8 := blk_frozen BK159.out 0
  have hns8_0 := NB158_159.out
  have hms8_0 := NB159_158.out
  have hs9 : w6.cell? ⟨gb159, 1, none⟩ = some (.slice none 0 0) := (blk_cell BK159.out 1).trans rfl
  have hfs9 := blk_frozen BK159.out 1
  have hns9_0 := NB158_159.out
  have hms9_0 := NB159_158.out
  refine skip_ (w1 := ?_) (by rfl) rfl ?_ ?_
  rotate_left
  · go_simp
    rfl
  refine hK.out _ _ ⟨((cell_far (p := ⟨gb159, _, none⟩) NB158_159.out _).trans (((cell_far (p := ⟨gb159, _, none⟩) NB158_159.out _).trans (hHeld.1)))), ((cell_far (p := ⟨gb159, _, none⟩) NB158_159.out _).trans (((cell_far (p := ⟨gb159, _, none⟩) NB158_159.out _).trans (hHeld.2))))⟩ (fun hHeld => ?_)
  clear hK K
  refine done_ (by kernel_rfl) ?_
  try go_wp2
  refine bodyPost_ret (results_cell_row rfl _ _ gb159 24 #[.int .i64 a0_0, .slice Ao7 t160.length co7] (0, 0) _ rfl (by (with_reducible repeat (first | refine blk_drewN ?_ _ | refine blk_drew ?_ | refine blk_alloc ?_ _)); refine blk_put (cs := #[.int .i64 a0_0, .slice none 0 0]) ?_ 1 _ rfl; (with_reducible repeat (first | refine blk_drewN ?_ _ | refine blk_drew ?_ | refine blk_alloc ?_ _)); refine blk_put (cs := #[.int .i64 0, .slice none 0 0]) ?_ 0 _ rfl; (with_reducible repeat (first | refine blk_drewN ?_ _ | refine blk_drew ?_ | refine blk_alloc ?_ _)); exact BK159.out) Try.underlying24 rfl (by kernel_rfl)) rfl ?_
  exact ⟨_, by first | rfl | (simp [errW_none, errW_some] <;> rfl) | (simp [*, errW_none, errW_some] <;> rfl), by (with_reducible repeat (first | apply Kd.S_alloc | apply Kd.S_drewN | apply Kd.S_drew)); exact Kd.S_mono (Kd.S_far (p := ⟨gb159, 1, none⟩) (Kd.S_far (p := ⟨gb159, 0, none⟩) (Kd.S_types HO162.out BK159.out (by decide)) (fun _ hk => hk.2) (.int .i64 a0_0)) (fun _ hk => hk.2) (.slice Ao7 t160.length co7)) (fun _ hk => trivial), by repeat (first | (with_reducible first | exact HB.out | apply below_alloc | apply pw_below_drewN | apply below_drew1 | refine below_set ?_ GE158.out | refine below_set ?_ GE159.out) | exact HB.out)⟩
end Go.Proofs.Ytapbkoolddnjgaa.PA
