/- What the claim needs of PAx26: lemmas and contracts, cut by a program to what is used. -/
import Derived.Test.YtapbkoolddnjgaaQfPAx0
import Derived.Test.YtapbkoolddnjgaaQfPAx13
import Derived.Test.YtapbkoolddnjgaaQfPAx15
import Derived.Test.YtapbkoolddnjgaaQfPAx17
import Derived.Test.YtapbkoolddnjgaaQfPAx18
import Derived.Test.YtapbkoolddnjgaaQfPAx19
import Derived.Test.YtapbkoolddnjgaaQfPAx22
import Derived.Test.YtapbkoolddnjgaaQfPAx24
import Derived.Test.YtapbkoolddnjgaaQfPAx25
namespace Go.Proofs.Ytapbkoolddnjgaa.PA
open Go.RowKit Go.Proofs.YtapbkoolddnjgaaW.PrintWords Go.Proofs.YtapbkoolddnjgaaW.PrintLast Go.Proofs.YtapbkoolddnjgaaW.PrintMore Go.Proofs.Sl
attribute [local go_sem] max2_int min2_int max_two min_two max_three min_three max_four min_four
set_option linter.unusedVariables false
set_option linter.unusedSimpArgs false
mutual
def ratchetlaw03_CnfFollows.j0 : Nat → List Int → Int → Bool → Int → List (List Int) → Option (Bool)
  | 0, _, _, _, _, _ => none
  | k + 1, x1, x2, x44, x354000, x354001 => if x44 = true then (some true) else ((ratchetref03_Copy.f k x354000 x354001).bind fun bt359 => ((ratchetbase_CopyInts.f x1).bind fun t363 => ((cnf_FollowsFrom.f bt359.1 bt359.2 t363 x2).bind fun bt366 => ((ratchetref03_FormulaErr.f k x354000 x354001).bind fun t368 => (if t368 = 0 then ((ratchetref03_ClauseErr.f k x354000 x1).bind fun t369 => (ratchetlaw03_CnfFollows.j1 k x1 x2 bt366.1 bt366.2 t369 x354000 x354001)) else (ratchetlaw03_CnfFollows.j1 k x1 x2 bt366.1 bt366.2 t368 x354000 x354001))))))
def ratchetlaw03_CnfFollows.j1 : Nat → List Int → Int → Bool → Int → Int → Int → List (List Int) → Option (Bool)
  | 0, _, _, _, _, _, _, _ => none
  | k + 1, x1, x2, x7, x8, x9, x354000, x354001 => if x9 = 0 then ((ratchetref03_FuelErr.f x2).bind fun t370 => (ratchetlaw03_CnfFollows.j2 k x1 x2 x7 x8 t370 x354000 x354001)) else (ratchetlaw03_CnfFollows.j2 k x1 x2 x7 x8 x9 x354000 x354001)
def ratchetlaw03_CnfFollows.j2 : Nat → List Int → Int → Bool → Int → Int → Int → List (List Int) → Option (Bool)
  | 0, _, _, _, _, _, _, _ => none
  | k + 1, x1, x2, x7, x8, x9, x354000, x354001 => if x9 = 0 then ((ratchetref03_Against.f k x354000 x354001 x1).bind fun bt371 => ((ratchetref03_First.f k bt371.1 bt371.2 x2).bind fun bt375 => (if bt375.2.2 = true then (if x8 = 0 then (ratchetlaw03_CnfFollows.j3 k x1 x7 (x7 != (bt375.1 == false)) x354000 x354001) else (ratchetlaw03_CnfFollows.j3 k x1 x7 true x354000 x354001)) else (if x8 = 28 then (some (!x7)) else (some false))))) else (if x8 = x9 then (some (!x7)) else (some false))
def ratchetlaw03_CnfFollows.j3 : Nat → List Int → Bool → Bool → Int → List (List Int) → Option (Bool)
  | 0, _, _, _, _, _ => none
  | k + 1, x1, x7, x99, x354000, x354001 => if x99 = true then (some false) else (ratchetlaw03_CnfFollows.l0 k x1 x7 0 x354000 x354001)
def ratchetlaw03_CnfFollows.l0 : Nat → List Int → Bool → Int → Int → List (List Int) → Option (Bool)
  | 0, _, _, _, _, _ => none
  | k + 1, x1, x7, x13, x354000, x354001 => (ratchetbase_Power.f x354000).bind fun t378 => (if x13 < t378 then (ratchetlaw03_CnfFollows.l1 k x1 x7 x13 ([] : List Int) 0 x354000 x354001) else (some true))
def ratchetlaw03_CnfFollows.l1 : Nat → List Int → Bool → Int → List Int → Int → Int → List (List Int) → Option (Bool)
  | 0, _, _, _, _, _, _, _ => none
  | k + 1, x1, x7, x13, x14, x15, x354000, x354001 => if x15 < x354000 then ((ratchetbase_Power.f x15).bind fun t379 => (if t379 = 0 then (none) else (if x14.length < 17592186044416 then (ratchetlaw03_CnfFollows.l1 k x1 x7 x13 (x14 ++ [Int.tmod (wrap64 (Int.tdiv x13 t379)) 2]) (wrap64 (x15 + 1)) x354000 x354001) else (none)))) else (if x7 = true then ((ratchetref03_False.f k x354000 x354001 x14).bind fun t383 => (if (t383.length : Int) = 0 then ((ratchetref03_IsTrue.f k x1 x14).bind fun t386 => (if t386 = true then (ratchetlaw03_CnfFollows.l0 k x1 x7 (wrap64 (x13 + 1)) x354000 x354001) else (some false))) else (ratchetlaw03_CnfFollows.l0 k x1 x7 (wrap64 (x13 + 1)) x354000 x354001))) else (ratchetlaw03_CnfFollows.l0 k x1 x7 (wrap64 (x13 + 1)) x354000 x354001))
end
def ratchetlaw03_CnfFollows.f (k : Nat) (a0_0 : Int) (l0_1 : List (List Int)) (l1 : List Int) (a2 : Int) : Option (Bool) := (ratchetlaw03_awake.f).bind fun t354 => (if t354 = true then ((ratchetlaw03_Few.f k a0_0 l0_1).bind fun t355 => (if t355 = true then ((ratchetref03_FormulaErr.f k a0_0 l0_1).bind fun t356 => (if t356 = 0 then (if a0_0 > 9 then (ratchetlaw03_CnfFollows.j0 k l1 a2 true a0_0 l0_1) else (if (l1.length : Int) > 14 then (ratchetlaw03_CnfFollows.j0 k l1 a2 true a0_0 l0_1) else ((ratchetref03_FuelErr.f a2).bind fun t357 => (if t357 = 0 then (ratchetlaw03_CnfFollows.j0 k l1 a2 (decide (a2 > 600)) a0_0 l0_1) else (ratchetlaw03_CnfFollows.j0 k l1 a2 false a0_0 l0_1))))) else (if (l1.length : Int) > 14 then (ratchetlaw03_CnfFollows.j0 k l1 a2 true a0_0 l0_1) else ((ratchetref03_FuelErr.f a2).bind fun t358 => (if t358 = 0 then (ratchetlaw03_CnfFollows.j0 k l1 a2 (decide (a2 > 600)) a0_0 l0_1) else (ratchetlaw03_CnfFollows.j0 k l1 a2 false a0_0 l0_1)))))) else (ratchetlaw03_CnfFollows.j0 k l1 a2 true a0_0 l0_1))) else (some false))
set_option maxHeartbeats 8000000 in
set_option maxRecDepth 100000 in
theorem ratchetlaw03_CnfFollows.calls (k : Nat) (a0_0 : Int) (A0_1 : Option Addr) (c0_1 : Nat) (l0_1 : List (List Int)) (A1 : Option Addr) (c1 : Nat) (l1 : List Int) (a2 : Int) (r : Bool) (w : World) (hr0_1 : Kd.C (Kd.slice 3 (Kd.int .i64)) w A0_1 l0_1.length l0_1) (hc0_1 : l0_1.length ≤ c0_1) (hr1 : Kd.C (Kd.int .i64) w A1 l1.length l1) (hc1 : l1.length ≤ c1) (h : ratchetlaw03_CnfFollows.f k a0_0 l0_1 l1 a2 = some r) :
    Calls Try.prog 4 #[.agg #[.int .i64 a0_0, .slice A0_1 l0_1.length c0_1], .slice A1 l1.length c1, .int .i64 a2] w fun e w' => e = .returned (.bool r) ∧ Below w.heap.size w w' := by
  have hu24 := Try.underlying24
  have HR0_1 := Ak hr0_1
  have HC0_1 := Ak hc0_1
  clear hr0_1 hc0_1
  have HR1 := Ak hr1
  have HC1 := Ak hc1
  clear hr1 hc1
  have HB := Ak (Below.refl w.heap.size w)
  have H : ((ratchetlaw03_awake.f).bind fun t354 => (if t354 = true then ((ratchetlaw03_Few.f k a0_0 l0_1).bind fun t355 => (if t355 = true then ((ratchetref03_FormulaErr.f k a0_0 l0_1).bind fun t356 => (if t356 = 0 then (if a0_0 > 9 then (ratchetlaw03_CnfFollows.j0 k l1 a2 true a0_0 l0_1) else (if (l1.length : Int) > 14 then (ratchetlaw03_CnfFollows.j0 k l1 a2 true a0_0 l0_1) else ((ratchetref03_FuelErr.f a2).bind fun t357 => (if t357 = 0 then (ratchetlaw03_CnfFollows.j0 k l1 a2 (decide (a2 > 600)) a0_0 l0_1) else (ratchetlaw03_CnfFollows.j0 k l1 a2 false a0_0 l0_1))))) else (if (l1.length : Int) > 14 then (ratchetlaw03_CnfFollows.j0 k l1 a2 true a0_0 l0_1) else ((ratchetref03_FuelErr.f a2).bind fun t358 => (if t358 = 0 then (ratchetlaw03_CnfFollows.j0 k l1 a2 (decide (a2 > 600)) a0_0 l0_1) else (ratchetlaw03_CnfFollows.j0 k l1 a2 false a0_0 l0_1)))))) else (ratchetlaw03_CnfFollows.j0 k l1 a2 true a0_0 l0_1))) else (some false))) = some r := h
  clear h
  replace H := Option.bind_eq_some_iff.mp H
  obtain ⟨t354, A40, H⟩ := H
  replace H : (if t354 = true then ((ratchetlaw03_Few.f k a0_0 l0_1).bind fun t355 => (if t355 = true then ((ratchetref03_FormulaErr.f k a0_0 l0_1).bind fun t356 => (if t356 = 0 then (if a0_0 > 9 then (ratchetlaw03_CnfFollows.j0 k l1 a2 true a0_0 l0_1) else (if (l1.length : Int) > 14 then (ratchetlaw03_CnfFollows.j0 k l1 a2 true a0_0 l0_1) else ((ratchetref03_FuelErr.f a2).bind fun t357 => (if t357 = 0 then (ratchetlaw03_CnfFollows.j0 k l1 a2 (decide (a2 > 600)) a0_0 l0_1) else (ratchetlaw03_CnfFollows.j0 k l1 a2 false a0_0 l0_1))))) else (if (l1.length : Int) > 14 then (ratchetlaw03_CnfFollows.j0 k l1 a2 true a0_0 l0_1) else ((ratchetref03_FuelErr.f a2).bind fun t358 => (if t358 = 0 then (ratchetlaw03_CnfFollows.j0 k l1 a2 (decide (a2 > 600)) a0_0 l0_1) else (ratchetlaw03_CnfFollows.j0 k l1 a2 false a0_0 l0_1)))))) else (ratchetlaw03_CnfFollows.j0 k l1 a2 true a0_0 l0_1))) else (some false)) = some r := H
  have A4 := Ak A40
  clear A40
  by_cases c5 : t354 = true
  · subst c5
    have H1 : ((ratchetlaw03_Few.f k a0_0 l0_1).bind fun t355 => (if t355 = true then ((ratchetref03_FormulaErr.f k a0_0 l0_1).bind fun t356 => (if t356 = 0 then (if a0_0 > 9 then (ratchetlaw03_CnfFollows.j0 k l1 a2 true a0_0 l0_1) else (if (l1.length : Int) > 14 then (ratchetlaw03_CnfFollows.j0 k l1 a2 true a0_0 l0_1) else ((ratchetref03_FuelErr.f a2).bind fun t357 => (if t357 = 0 then (ratchetlaw03_CnfFollows.j0 k l1 a2 (decide (a2 > 600)) a0_0 l0_1) else (ratchetlaw03_CnfFollows.j0 k l1 a2 false a0_0 l0_1))))) else (if (l1.length : Int) > 14 then (ratchetlaw03_CnfFollows.j0 k l1 a2 true a0_0 l0_1) else ((ratchetref03_FuelErr.f a2).bind fun t358 => (if t358 = 0 then (ratchetlaw03_CnfFollows.j0 k l1 a2 (decide (a2 > 600)) a0_0 l0_1) else (ratchetlaw03_CnfFollows.j0 k l1 a2 false a0_0 l0_1)))))) else (ratchetlaw03_CnfFollows.j0 k l1 a2 true a0_0 l0_1))) = some r := by rw [if_pos rfl] at H; exact H
    clear H
    have H := H1
    clear H1
    have HC6 := Ak H
    clear H
    go_enter Try.func4, Try.ntmps4
    go_upto_region 3 with (first | ((with_reducible refine gate_dst (N := 3) rfl ?_); (try (refine gate_guard (by rfl) ?_; dsimp only)); refine box_event ?hg (N := 3) ?hd (cs := #[.int .i64 a0_0, .slice A0_1 l0_1.length c0_1]) (t := 24) ?hr ?_; (case hd => rfl); (case hg => rfl); (case hr => first | (go_simp; done) | (go_simp; rfl)); intro gb353 hg w7 hbox hb; have n0_ := Ak (below_step (by repeat (first | (with_reducible first | exact HB.out | apply below_alloc | apply pw_below_drewN | apply below_drew1) | exact HB.out)) hb); have n1_ := Ak (hbox); have n2_ := Ak ((by rw [hg]; exact (below_size (by repeat (first | (with_reducible first | exact HB.out | apply below_alloc | apply pw_below_drewN | apply below_drew1) | exact HB.out))) : w.heap.size ≤ gb353)); have n3_ := Ak ((by rw [hg]; exact (below_size (by repeat (first | (with_reducible first | exact HB.out | apply below_alloc | apply pw_below_drewN | apply below_drew1) | exact HB.out))) : w.heap.size ≤ gb353)); clear HB; have HB := n0_; have BK353 := n1_; have GW353 := n2_; have GE353 := n3_; clear n0_ n1_ n2_ n3_; clear hb hbox hg) | ((with_reducible refine gate_callee (f := 6) rfl ?_); refine goesL_ (some 16) rfl rfl Try.func6 (by kernel_rfl) rfl #[] rfl (by (try simp only [List.map_toArray, List.map_cons, List.map_nil]); first | done | rfl | (simp only [List.length_drop, List.length_take]; rfl)) ?_; (with_reducible refine (ratchetlaw03_awake.calls  true _ A4.out).mono ?_); rintro e w8 ⟨rfl, hb⟩; refine ⟨_, rfl, ?_⟩; have n0_ := Ak (blk_below (g := gb353) (o := .cells #[.int .i64 a0_0, .slice A0_1 l0_1.length c0_1] 24 (0, 0)) (by (with_reducible repeat (first | refine blk_drewN ?_ _ | refine blk_drew ?_ | refine blk_alloc ?_ _)); exact BK353.out) hb); have n1_ := Ak (below_step (by repeat (first | (with_reducible first | exact HB.out | apply below_alloc | apply pw_below_drewN | apply below_drew1 | refine below_set ?_ GE353.out) | exact HB.out)) hb); clear BK353; clear HB; have BK353 := n0_; have HB := n1_; clear n0_ n1_; (try clear hb); (try clear hb2); (try clear hk); (try clear hi)))
    (try simp only [Act.put, La, Lb, Lc])
    go_cut [44] (fun v44 wc => ∃ (kq : Nat) (x44_5 : Bool), v44 = .bool x44_5 ∧ Aside0 (ratchetlaw03_CnfFollows.j0 kq l1 a2 x44_5 a0_0 l0_1 = some r) ∧ Aside0 (kq ≤ k) ∧ Aside0 (wc.heap[gb353]? = some (.cells #[.int .i64 a0_0, (.slice A0_1 l0_1.length c0_1)] 24 (0, 0))) ∧ Aside0 (Below w.heap.size w wc))
    case first =>
      have H := HC6.out
      clear HC6
      replace H := Option.bind_eq_some_iff.mp H
      obtain ⟨t355, A90, H⟩ := H
      replace H : (if t355 = true then ((ratchetref03_FormulaErr.f k a0_0 l0_1).bind fun t356 => (if t356 = 0 then (if a0_0 > 9 then (ratchetlaw03_CnfFollows.j0 k l1 a2 true a0_0 l0_1) else (if (l1.length : Int) > 14 then (ratchetlaw03_CnfFollows.j0 k l1 a2 true a0_0 l0_1) else ((ratchetref03_FuelErr.f a2).bind fun t357 => (if t357 = 0 then (ratchetlaw03_CnfFollows.j0 k l1 a2 (decide (a2 > 600)) a0_0 l0_1) else (ratchetlaw03_CnfFollows.j0 k l1 a2 false a0_0 l0_1))))) else (if (l1.length : Int) > 14 then (ratchetlaw03_CnfFollows.j0 k l1 a2 true a0_0 l0_1) else ((ratchetref03_FuelErr.f a2).bind fun t358 => (if t358 = 0 then (ratchetlaw03_CnfFollows.j0 k l1 a2 (decide (a2 > 600)) a0_0 l0_1) else (ratchetlaw03_CnfFollows.j0 k l1 a2 false a0_0 l0_1)))))) else (ratchetlaw03_CnfFollows.j0 k l1 a2 true a0_0 l0_1)) = some r := H
      have A9 := Ak A90
      clear A90
      by_cases c10 : t355 = true
      · subst c10
        have H1 : ((ratchetref03_FormulaErr.f k a0_0 l0_1).bind fun t356 => (if t356 = 0 then (if a0_0 > 9 then (ratchetlaw03_CnfFollows.j0 k l1 a2 true a0_0 l0_1) else (if (l1.length : Int) > 14 then (ratchetlaw03_CnfFollows.j0 k l1 a2 true a0_0 l0_1) else ((ratchetref03_FuelErr.f a2).bind fun t357 => (if t357 = 0 then (ratchetlaw03_CnfFollows.j0 k l1 a2 (decide (a2 > 600)) a0_0 l0_1) else (ratchetlaw03_CnfFollows.j0 k l1 a2 false a0_0 l0_1))))) else (if (l1.length : Int) > 14 then (ratchetlaw03_CnfFollows.j0 k l1 a2 true a0_0 l0_1) else ((ratchetref03_FuelErr.f a2).bind fun t358 => (if t358 = 0 then (ratchetlaw03_CnfFollows.j0 k l1 a2 (decide (a2 > 600)) a0_0 l0_1) else (ratchetlaw03_CnfFollows.j0 k l1 a2 false a0_0 l0_1)))))) = some r := by rw [if_pos rfl] at H; exact H
        clear H
        have H := H1
        clear H1
        replace H := Option.bind_eq_some_iff.mp H
        obtain ⟨t356, A110, H⟩ := H
        replace H : (if t356 = 0 then (if a0_0 > 9 then (ratchetlaw03_CnfFollows.j0 k l1 a2 true a0_0 l0_1) else (if (l1.length : Int) > 14 then (ratchetlaw03_CnfFollows.j0 k l1 a2 true a0_0 l0_1) else ((ratchetref03_FuelErr.f a2).bind fun t357 => (if t357 = 0 then (ratchetlaw03_CnfFollows.j0 k l1 a2 (decide (a2 > 600)) a0_0 l0_1) else (ratchetlaw03_CnfFollows.j0 k l1 a2 false a0_0 l0_1))))) else (if (l1.length : Int) > 14 then (ratchetlaw03_CnfFollows.j0 k l1 a2 true a0_0 l0_1) else ((ratchetref03_FuelErr.f a2).bind fun t358 => (if t358 = 0 then (ratchetlaw03_CnfFollows.j0 k l1 a2 (decide (a2 > 600)) a0_0 l0_1) else (ratchetlaw03_CnfFollows.j0 k l1 a2 false a0_0 l0_1))))) = some r := H
        have A11 := Ak A110
        clear A110
        by_cases c12 : t356 = 0
        · rw [if_pos c12] at H
          have c12b0 : (t356 == 0) = true := beq_iff_eq.mpr c12
          have c12b1 : (t356 != 0) = false := bne_eq_false_iff_eq.mpr c12
          clear c12
          (first | rw [c12b0] | (simp only [i64_w, i32_w]; rw [c12b0]) | skip)
          by_cases c13 : a0_0 > 9
          · rw [if_pos c13] at H
            have c13b0 : decide (9 < a0_0) = true := decide_eq_true c13
            clear c13
            have H' := Ak H
            clear H
            have hcz14_0 : w8.cell? ⟨gb353, 0, none⟩ = some (.int .i64 a0_0) := (blk_cell BK353.out 0).trans rfl
            have hcz14_1 : w8.cell? ⟨gb353, 1, none⟩ = some (.slice A0_1 l0_1.length c0_1) := (blk_cell BK353.out 1).trans rfl
            have hfz14_0 := blk_frozen BK353.out 0
            have hfz14_1 := blk_frozen BK353.out 1
            go_wp2_with (first | ((with_reducible refine gate_callee (f := 16) rfl ?_); refine goesL_ (some 19) rfl rfl Try.func16 (by kernel_rfl) rfl #[.agg #[.int .i64 a0_0, .slice A0_1 l0_1.length c0_1]] rfl (by (try simp only [List.map_toArray, List.map_cons, List.map_nil]); first | done | rfl | (simp only [List.length_drop, List.length_take]; rfl)) ?_; (with_reducible refine (ratchetlaw03_Few.calls k a0_0 _ _ l0_1 true _ ?side1 ?side2 A9.out).mono ?_); (case side1 => repeat (first | exact (Kd.C_below HR0_1.out HB.out) | (with_reducible refine Kd.C_alloc ?_ _) | (with_reducible refine Kd.C_drewN ?_ _) | (with_reducible refine Kd.C_drew ?_))); (case side2 => exact HC0_1.out); rintro e w15 ⟨rfl, hb⟩; refine ⟨_, rfl, ?_⟩; have n0_ := Ak (blk_below (g := gb353) (o := .cells #[.int .i64 a0_0, .slice A0_1 l0_1.length c0_1] 24 (0, 0)) (by (with_reducible repeat (first | refine blk_drewN ?_ _ | refine blk_drew ?_ | refine blk_alloc ?_ _)); exact BK353.out) hb); have n1_ := Ak (below_step (by repeat (first | (with_reducible first | exact HB.out | apply below_alloc | apply pw_below_drewN | apply below_drew1 | refine below_set ?_ GE353.out) | exact HB.out)) hb); clear BK353; clear HB; have BK353 := n0_; have HB := n1_; clear n0_ n1_; (try clear hb); (try clear hb2); (try clear hk); (try clear hi); have hcz16_0 : w15.cell? ⟨gb353, 0, none⟩ = some (.int .i64 a0_0) := (blk_cell BK353.out 0).trans rfl; have hcz16_1 : w15.cell? ⟨gb353, 1, none⟩ = some (.slice A0_1 l0_1.length c0_1) := (blk_cell BK353.out 1).trans rfl; have hfz16_0 := blk_frozen BK353.out 0; have hfz16_1 := blk_frozen BK353.out 1) | (go_at_call 17; (with_reducible refine (ratchetref03_FormulaErr.calls k a0_0 _ _ l0_1 t356 _ ?side1 ?side2 A11.out).mono ?_); (case side1 => repeat (first | exact (Kd.C_below HR0_1.out HB.out) | (with_reducible refine Kd.C_alloc ?_ _) | (with_reducible refine Kd.C_drewN ?_ _) | (with_reducible refine Kd.C_drew ?_))); (case side2 => exact HC0_1.out); rintro e w17 ⟨rfl, hb⟩; have n0_ := Ak (blk_below (g := gb353) (o := .cells #[.int .i64 a0_0, .slice A0_1 l0_1.length c0_1] 24 (0, 0)) (by (with_reducible repeat (first | refine blk_drewN ?_ _ | refine blk_drew ?_ | refine blk_alloc ?_ _)); exact BK353.out) hb); have n1_ := Ak (below_step (by repeat (first | (with_reducible first | exact HB.out | apply below_alloc | apply pw_below_drewN | apply below_drew1 | refine below_set ?_ GE353.out) | exact HB.out)) hb); clear BK353; clear HB; have BK353 := n0_; have HB := n1_; clear n0_ n1_; (try clear hb); (try clear hb2); (try clear hk); (try clear hi); have hcz18_0 : w17.cell? ⟨gb353, 0, none⟩ = some (.int .i64 a0_0) := (blk_cell BK353.out 0).trans rfl; have hcz18_1 : w17.cell? ⟨gb353, 1, none⟩ = some (.slice A0_1 l0_1.length c0_1) := (blk_cell BK353.out 1).trans rfl; have hfz18_0 := blk_frozen BK353.out 0; have hfz18_1 := blk_frozen BK353.out 1))
            go_meet
            case rel => exact ⟨_, (true), (by first | rfl | (simp; done) | (simp [*]; done)), H', ⟨by first | omega | exact Nat.le_refl _⟩, ⟨by (with_reducible repeat (first | refine blk_drewN ?_ _ | refine blk_drew ?_ | refine blk_alloc ?_ _)); exact BK353.out⟩, ⟨by repeat (first | (with_reducible first | exact HB.out | apply below_alloc | apply pw_below_drewN | apply below_drew1 | refine below_set ?_ GE353.out) | exact HB.out)⟩⟩
          · rw [if_neg c13] at H
            have c13b0 : decide (9 < a0_0) = false := decide_eq_false c13
            clear c13
            by_cases c19 : (l1.length : Int) > 14
            · rw [if_pos c19] at H
              have c19b0 : decide (14 < (l1.length : Int)) = true := decide_eq_true c19
              have c19b1 : decide (14 < l1.length) = true := decide_eq_true (by omega)
              clear c19
              have H' := Ak H
              clear H
              have hcz20_0 : w8.cell? ⟨gb353, 0, none⟩ = some (.int .i64 a0_0) := (blk_cell BK353.out 0).trans rfl
              have hcz20_1 : w8.cell? ⟨gb353, 1, none⟩ = some (.slice A0_1 l0_1.length c0_1) := (blk_cell BK353.out 1).trans rfl
              have hfz20_0 := blk_frozen BK353.out 0
              have hfz20_1 := blk_frozen BK353.out 1
              go_wp2_with (first | ((with_reducible refine gate_callee (f := 16) rfl ?_); refine goesL_ (some 19) rfl rfl Try.func16 (by kernel_rfl) rfl #[.agg #[.int .i64 a0_0, .slice A0_1 l0_1.length c0_1]] rfl (by (try simp only [List.map_toArray, List.map_cons, List.map_nil]); first | done | rfl | (simp only [List.length_drop, List.length_take]; rfl)) ?_; (with_reducible refine (ratchetlaw03_Few.calls k a0_0 _ _ l0_1 true _ ?side1 ?side2 A9.out).mono ?_); (case side1 => repeat (first | exact (Kd.C_below HR0_1.out HB.out) | (with_reducible refine Kd.C_alloc ?_ _) | (with_reducible refine Kd.C_drewN ?_ _) | (with_reducible refine Kd.C_drew ?_))); (case side2 => exact HC0_1.out); rintro e w21 ⟨rfl, hb⟩; refine ⟨_, rfl, ?_⟩; have n0_ := Ak (blk_below (g := gb353) (o := .cells #[.int .i64 a0_0, .slice A0_1 l0_1.length c0_1] 24 (0, 0)) (by (with_reducible repeat (first | refine blk_drewN ?_ _ | refine blk_drew ?_ | refine blk_alloc ?_ _)); exact BK353.out) hb); have n1_ := Ak (below_step (by repeat (first | (with_reducible first | exact HB.out | apply below_alloc | apply pw_below_drewN | apply below_drew1 | refine below_set ?_ GE353.out) | exact HB.out)) hb); clear BK353; clear HB; have BK353 := n0_; have HB := n1_; clear n0_ n1_; (try clear hb); (try clear hb2); (try clear hk); (try clear hi); have hcz22_0 : w21.cell? ⟨gb353, 0, none⟩ = some (.int .i64 a0_0) := (blk_cell BK353.out 0).trans rfl; have hcz22_1 : w21.cell? ⟨gb353, 1, none⟩ = some (.slice A0_1 l0_1.length c0_1) := (blk_cell BK353.out 1).trans rfl; have hfz22_0 := blk_frozen BK353.out 0; have hfz22_1 := blk_frozen BK353.out 1) | (go_at_call 17; (with_reducible refine (ratchetref03_FormulaErr.calls k a0_0 _ _ l0_1 t356 _ ?side1 ?side2 A11.out).mono ?_); (case side1 => repeat (first | exact (Kd.C_below HR0_1.out HB.out) | (with_reducible refine Kd.C_alloc ?_ _) | (with_reducible refine Kd.C_drewN ?_ _) | (with_reducible refine Kd.C_drew ?_))); (case side2 => exact HC0_1.out); rintro e w23 ⟨rfl, hb⟩; have n0_ := Ak (blk_below (g := gb353) (o := .cells #[.int .i64 a0_0, .slice A0_1 l0_1.length c0_1] 24 (0, 0)) (by (with_reducible repeat (first | refine blk_drewN ?_ _ | refine blk_drew ?_ | refine blk_alloc ?_ _)); exact BK353.out) hb); have n1_ := Ak (below_step (by repeat (first | (with_reducible first | exact HB.out | apply below_alloc | apply pw_below_drewN | apply below_drew1 | refine below_set ?_ GE353.out) | exact HB.out)) hb); clear BK353; clear HB; have BK353 := n0_; have HB := n1_; clear n0_ n1_; (try clear hb); (try clear hb2); (try clear hk); (try clear hi); have hcz24_0 : w23.cell? ⟨gb353, 0, none⟩ = some (.int .i64 a0_0) := (blk_cell BK353.out 0).trans rfl; have hcz24_1 : w23.cell? ⟨gb353, 1, none⟩ = some (.slice A0_1 l0_1.length c0_1) := (blk_cell BK353.out 1).trans rfl; have hfz24_0 := blk_frozen BK353.out 0; have hfz24_1 := blk_frozen BK353.out 1))
              go_meet
              case rel => exact ⟨_, (true), (by first | rfl | (simp; done) | (simp [*]; done)), H', ⟨by first | omega | exact Nat.le_refl _⟩, ⟨by (with_reducible repeat (first | refine blk_drewN ?_ _ | refine blk_drew ?_ | refine blk_alloc ?_ _)); exact BK353.out⟩, ⟨by repeat (first | (with_reducible first | exact HB.out | apply below_alloc | apply pw_below_drewN | apply below_drew1 | refine below_set ?_ GE353.out) | exact HB.out)⟩⟩
            · rw [if_neg c19] at H
              have c19b0 : decide (14 < (l1.length : Int)) = false := decide_eq_false c19
              have c19b1 : decide (14 < l1.length) = false := decide_eq_false (by omega)
              clear c19
              replace H := Option.bind_eq_some_iff.mp H
              obtain ⟨t357, A250, H⟩ := H
              replace H : (if t357 = 0 then (ratchetlaw03_CnfFollows.j0 k l1 a2 (decide (a2 > 600)) a0_0 l0_1) else (ratchetlaw03_CnfFollows.j0 k l1 a2 false a0_0 l0_1)) = some r := H
              have A25 := Ak A250
              clear A250
              by_cases c26 : t357 = 0
              · rw [if_pos c26] at H
                have c26b0 : (t357 == 0) = true := beq_iff_eq.mpr c26
                have c26b1 : (t357 != 0) = false := bne_eq_false_iff_eq.mpr c26
                clear c26
                have H' := Ak H
                clear H
                have hcz27_0 : w8.cell? ⟨gb353, 0, none⟩ = some (.int .i64 a0_0) := (blk_cell BK353.out 0).trans rfl
                have hcz27_1 : w8.cell? ⟨gb353, 1, none⟩ = some (.slice A0_1 l0_1.length c0_1) := (blk_cell BK353.out 1).trans rfl
                have hfz27_0 := blk_frozen BK353.out 0
                have hfz27_1 := blk_frozen BK353.out 1
                go_wp2_with (first | ((with_reducible refine gate_callee (f := 16) rfl ?_); refine goesL_ (some 19) rfl rfl Try.func16 (by kernel_rfl) rfl #[.agg #[.int .i64 a0_0, .slice A0_1 l0_1.length c0_1]] rfl (by (try simp only [List.map_toArray, List.map_cons, List.map_nil]); first | done | rfl | (simp only [List.length_drop, List.length_take]; rfl)) ?_; (with_reducible refine (ratchetlaw03_Few.calls k a0_0 _ _ l0_1 true _ ?side1 ?side2 A9.out).mono ?_); (case side1 => repeat (first | exact (Kd.C_below HR0_1.out HB.out) | (with_reducible refine Kd.C_alloc ?_ _) | (with_reducible refine Kd.C_drewN ?_ _) | (with_reducible refine Kd.C_drew ?_))); (case side2 => exact HC0_1.out); rintro e w28 ⟨rfl, hb⟩; refine ⟨_, rfl, ?_⟩; have n0_ := Ak (blk_below (g := gb353) (o := .cells #[.int .i64 a0_0, .slice A0_1 l0_1.length c0_1] 24 (0, 0)) (by (with_reducible repeat (first | refine blk_drewN ?_ _ | refine blk_drew ?_ | refine blk_alloc ?_ _)); exact BK353.out) hb); have n1_ := Ak (below_step (by repeat (first | (with_reducible first | exact HB.out | apply below_alloc | apply pw_below_drewN | apply below_drew1 | refine below_set ?_ GE353.out) | exact HB.out)) hb); clear BK353; clear HB; have BK353 := n0_; have HB := n1_; clear n0_ n1_; (try clear hb); (try clear hb2); (try clear hk); (try clear hi); have hcz29_0 : w28.cell? ⟨gb353, 0, none⟩ = some (.int .i64 a0_0) := (blk_cell BK353.out 0).trans rfl; have hcz29_1 : w28.cell? ⟨gb353, 1, none⟩ = some (.slice A0_1 l0_1.length c0_1) := (blk_cell BK353.out 1).trans rfl; have hfz29_0 := blk_frozen BK353.out 0; have hfz29_1 := blk_frozen BK353.out 1) | (go_at_call 17; (with_reducible refine (ratchetref03_FormulaErr.calls k a0_0 _ _ l0_1 t356 _ ?side1 ?side2 A11.out).mono ?_); (case side1 => repeat (first | exact (Kd.C_below HR0_1.out HB.out) | (with_reducible refine Kd.C_alloc ?_ _) | (with_reducible refine Kd.C_drewN ?_ _) | (with_reducible refine Kd.C_drew ?_))); (case side2 => exact HC0_1.out); rintro e w30 ⟨rfl, hb⟩; have n0_ := Ak (blk_below (g := gb353) (o := .cells #[.int .i64 a0_0, .slice A0_1 l0_1.length c0_1] 24 (0, 0)) (by (with_reducible repeat (first | refine blk_drewN ?_ _ | refine blk_drew ?_ | refine blk_alloc ?_ _)); exact BK353.out) hb); have n1_ := Ak (below_step (by repeat (first | (with_reducible first | exact HB.out | apply below_alloc | apply pw_below_drewN | apply below_drew1 | refine below_set ?_ GE353.out) | exact HB.out)) hb); clear BK353; clear HB; have BK353 := n0_; have HB := n1_; clear n0_ n1_; (try clear hb); (try clear hb2); (try clear hk); (try clear hi); have hcz31_0 : w30.cell? ⟨gb353, 0, none⟩ = some (.int .i64 a0_0) := (blk_cell BK353.out 0).trans rfl; have hcz31_1 : w30.cell? ⟨gb353, 1, none⟩ = some (.slice A0_1 l0_1.length c0_1) := (blk_cell BK353.out 1).trans rfl; have hfz31_0 := blk_frozen BK353.out 0; have hfz31_1 := blk_frozen BK353.out 1) | (go_at_call 18; (with_reducible refine (ratchetref03_FuelErr.calls a2 t357 _ A25.out).mono ?_); rintro e w' ⟨rfl, ⟨nd, rfl⟩⟩))
                go_meet
                case rel => exact ⟨_, (decide (a2 > 600)), (by first | rfl | (simp; done) | (simp [*]; done)), H', ⟨by first | omega | exact Nat.le_refl _⟩, ⟨by (with_reducible repeat (first | refine blk_drewN ?_ _ | refine blk_drew ?_ | refine blk_alloc ?_ _)); exact BK353.out⟩, ⟨by repeat (first | (with_reducible first | exact HB.out | apply below_alloc | apply pw_below_drewN | apply below_drew1 | refine below_set ?_ GE353.out) | exact HB.out)⟩⟩
              · rw [if_neg c26] at H
                have c26b0 : (t357 == 0) = false := beq_eq_false_iff_ne.mpr c26
                have c26b1 : (t357 != 0) = true := bne_iff_ne.mpr c26
                have H' := Ak H
                clear H
                have hcz32_0 : w8.cell? ⟨gb353, 0, none⟩ = some (.int .i64 a0_0) := (blk_cell BK353.out 0).trans rfl
                have hcz32_1 : w8.cell? ⟨gb353, 1, none⟩ = some (.slice A0_1 l0_1.length c0_1) := (blk_cell BK353.out 1).trans rfl
                have hfz32_0 := blk_frozen BK353.out 0
                have hfz32_1 := blk_frozen BK353.out 1
                go_wp2_with (first | ((with_reducible refine gate_callee (f := 16) rfl ?_); refine goesL_ (some 19) rfl rfl Try.func16 (by kernel_rfl) rfl #[.agg #[.int .i64 a0_0, .slice A0_1 l0_1.length c0_1]] rfl (by (try simp only [List.map_toArray, List.map_cons, List.map_nil]); first | done | rfl | (simp only [List.length_drop, List.length_take]; rfl)) ?_; (with_reducible refine (ratchetlaw03_Few.calls k a0_0 _ _ l0_1 true _ ?side1 ?side2 A9.out).mono ?_); (case side1 => repeat (first | exact (Kd.C_below HR0_1.out HB.out) | (with_reducible refine Kd.C_alloc ?_ _) | (with_reducible refine Kd.C_drewN ?_ _) | (with_reducible refine Kd.C_drew ?_))); (case side2 => exact HC0_1.out); rintro e w33 ⟨rfl, hb⟩; refine ⟨_, rfl, ?_⟩; have n0_ := Ak (blk_below (g := gb353) (o := .cells #[.int .i64 a0_0, .slice A0_1 l0_1.length c0_1] 24 (0, 0)) (by (with_reducible repeat (first | refine blk_drewN ?_ _ | refine blk_drew ?_ | refine blk_alloc ?_ _)); exact BK353.out) hb); have n1_ := Ak (below_step (by repeat (first | (with_reducible first | exact HB.out | apply below_alloc | apply pw_below_drewN | apply below_drew1 | refine below_set ?_ GE353.out) | exact HB.out)) hb); clear BK353; clear HB; have BK353 := n0_; have HB := n1_; clear n0_ n1_; (try clear hb); (try clear hb2); (try clear hk); (try clear hi); have hcz34_0 : w33.cell? ⟨gb353, 0, none⟩ = some (.int .i64 a0_0) := (blk_cell BK353.out 0).trans rfl; have hcz34_1 : w33.cell? ⟨gb353, 1, none⟩ = some (.slice A0_1 l0_1.length c0_1) := (blk_cell BK353.out 1).trans rfl; have hfz34_0 := blk_frozen BK353.out 0; have hfz34_1 := blk_frozen BK353.out 1) | (go_at_call 17; (with_reducible refine (ratchetref03_FormulaErr.calls k a0_0 _ _ l0_1 t356 _ ?side1 ?side2 A11.out).mono ?_); (case side1 => repeat (first | exact (Kd.C_below HR0_1.out HB.out) | (with_reducible refine Kd.C_alloc ?_ _) | (with_reducible refine Kd.C_drewN ?_ _) | (with_reducible refine Kd.C_drew ?_))); (case side2 => exact HC0_1.out); rintro e w35 ⟨rfl, hb⟩; have n0_ := Ak (blk_below (g := gb353) (o := .cells #[.int .i64 a0_0, .slice A0_1 l0_1.length c0_1] 24 (0, 0)) (by (with_reducible repeat (first | refine blk_drewN ?_ _ | refine blk_drew ?_ | refine blk_alloc ?_ _)); exact BK353.out) hb); have n1_ := Ak (below_step (by repeat (first | (with_reducible first | exact HB.out | apply below_alloc | apply pw_below_drewN | apply below_drew1 | refine below_set ?_ GE353.out) | exact HB.out)) hb); clear BK353; clear HB; have BK353 := n0_; have HB := n1_; clear n0_ n1_; (try clear hb); (try clear hb2); (try clear hk); (try clear hi); have hcz36_0 : w35.cell? ⟨gb353, 0, none⟩ = some (.int .i64 a0_0) := (blk_cell BK353.out 0).trans rfl; have hcz36_1 : w35.cell? ⟨gb353, 1, none⟩ = some (.slice A0_1 l0_1.length c0_1) := (blk_cell BK353.out 1).trans rfl; have hfz36_0 := blk_frozen BK353.out 0; have hfz36_1 := blk_frozen BK353.out 1) | (go_at_call 18; (with_reducible refine (ratchetref03_FuelErr.calls a2 t357 _ A25.out).mono ?_); rintro e w' ⟨rfl, ⟨nd, rfl⟩⟩))
                go_meet
                case rel => exact ⟨_, (false), (by first | rfl | (simp; done) | (simp [*]; done)), H', ⟨by first | omega | exact Nat.le_refl _⟩, ⟨by (with_reducible repeat (first | refine blk_drewN ?_ _ | refine blk_drew ?_ | refine blk_alloc ?_ _)); exact BK353.out⟩, ⟨by repeat (first | (with_reducible first | exact HB.out | apply below_alloc | apply pw_below_drewN | apply below_drew1 | refine below_set ?_ GE353.out) | exact HB.out)⟩⟩
        · rw [if_neg c12] at H
          have c12b0 : (t356 == 0) = false := beq_eq_false_iff_ne.mpr c12
          have c12b1 : (t356 != 0) = true := bne_iff_ne.mpr c12
          (first | rw [c12b0] | (simp only [i64_w, i32_w]; rw [c12b0]) | skip)
          by_cases c37 : (l1.length : Int) > 14
          · rw [if_pos c37] at H
            have c37b0 : decide (14 < (l1.length : Int)) = true := decide_eq_true c37
            have c37b1 : decide (14 < l1.length) = true := decide_eq_true (by omega)
            clear c37
            have H' := Ak H
            clear H
            have hcz38_0 : w8.cell? ⟨gb353, 0, none⟩ = some (.int .i64 a0_0) := (blk_cell BK353.out 0).trans rfl
            have hcz38_1 : w8.cell? ⟨gb353, 1, none⟩ = some (.slice A0_1 l0_1.length c0_1) := (blk_cell BK353.out 1).trans rfl
            have hfz38_0 := blk_frozen BK353.out 0
            have hfz38_1 := blk_frozen BK353.out 1
            go_wp2_with (first | ((with_reducible refine gate_callee (f := 16) rfl ?_); refine goesL_ (some 19) rfl rfl Try.func16 (by kernel_rfl) rfl #[.agg #[.int .i64 a0_0, .slice A0_1 l0_1.length c0_1]] rfl (by (try simp only [List.map_toArray, List.map_cons, List.map_nil]); first | done | rfl | (simp only [List.length_drop, List.length_take]; rfl)) ?_; (with_reducible refine (ratchetlaw03_Few.calls k a0_0 _ _ l0_1 true _ ?side1 ?side2 A9.out).mono ?_); (case side1 => repeat (first | exact (Kd.C_below HR0_1.out HB.out) | (with_reducible refine Kd.C_alloc ?_ _) | (with_reducible refine Kd.C_drewN ?_ _) | (with_reducible refine Kd.C_drew ?_))); (case side2 => exact HC0_1.out); rintro e w39 ⟨rfl, hb⟩; refine ⟨_, rfl, ?_⟩; have n0_ := Ak (blk_below (g := gb353) (o := .cells #[.int .i64 a0_0, .slice A0_1 l0_1.length c0_1] 24 (0, 0)) (by (with_reducible repeat (first | refine blk_drewN ?_ _ | refine blk_drew ?_ | refine blk_alloc ?_ _)); exact BK353.out) hb); have n1_ := Ak (below_step (by repeat (first | (with_reducible first | exact HB.out | apply below_alloc | apply pw_below_drewN | apply below_drew1 | refine below_set ?_ GE353.out) | exact HB.out)) hb); clear BK353; clear HB; have BK353 := n0_; have HB := n1_; clear n0_ n1_; (try clear hb); (try clear hb2); (try clear hk); (try clear hi); have hcz40_0 : w39.cell? ⟨gb353, 0, none⟩ = some (.int .i64 a0_0) := (blk_cell BK353.out 0).trans rfl; have hcz40_1 : w39.cell? ⟨gb353, 1, none⟩ = some (.slice A0_1 l0_1.length c0_1) := (blk_cell BK353.out 1).trans rfl; have hfz40_0 := blk_frozen BK353.out 0; have hfz40_1 := blk_frozen BK353.out 1) | (go_at_call 17; (with_reducible refine (ratchetref03_FormulaErr.calls k a0_0 _ _ l0_1 t356 _ ?side1 ?side2 A11.out).mono ?_); (case side1 => repeat (first | exact (Kd.C_below HR0_1.out HB.out) | (with_reducible refine Kd.C_alloc ?_ _) | (with_reducible refine Kd.C_drewN ?_ _) | (with_reducible refine Kd.C_drew ?_))); (case side2 => exact HC0_1.out); rintro e w41 ⟨rfl, hb⟩; have n0_ := Ak (blk_below (g := gb353) (o := .cells #[.int .i64 a0_0, .slice A0_1 l0_1.length c0_1] 24 (0, 0)) (by (with_reducible repeat (first | refine blk_drewN ?_ _ | refine blk_drew ?_ | refine blk_alloc ?_ _)); exact BK353.out) hb); have n1_ := Ak (below_step (by repeat (first | (with_reducible first | exact HB.out | apply below_alloc | apply pw_below_drewN | apply below_drew1 | refine below_set ?_ GE353.out) | exact HB.out)) hb); clear BK353; clear HB; have BK353 := n0_; have HB := n1_; clear n0_ n1_; (try clear hb); (try clear hb2); (try clear hk); (try clear hi)))
            go_meet
            case rel => exact ⟨_, (true), (by first | rfl | (simp; done) | (simp [*]; done)), H', ⟨by first | omega | exact Nat.le_refl _⟩, ⟨by (with_reducible repeat (first | refine blk_drewN ?_ _ | refine blk_drew ?_ | refine blk_alloc ?_ _)); exact BK353.out⟩, ⟨by repeat (first | (with_reducible first | exact HB.out | apply below_alloc | apply pw_below_drewN | apply below_drew1 | refine below_set ?_ GE353.out) | exact HB.out)⟩⟩
          · rw [if_neg c37] at H
            have c37b0 : decide (14 < (l1.length : Int)) = false := decide_eq_false c37
            have c37b1 : decide (14 < l1.length) = false := decide_eq_false (by omega)
            clear c37
            replace H := Option.bind_eq_some_iff.mp H
            obtain ⟨t358, A420, H⟩ := H
            replace H : (if t358 = 0 then (ratchetlaw03_CnfFollows.j0 k l1 a2 (decide (a2 > 600)) a0_0 l0_1) else (ratchetlaw03_CnfFollows.j0 k l1 a2 false a0_0 l0_1)) = some r := H
            have A42 := Ak A420
            clear A420
            by_cases c43 : t358 = 0
            · rw [if_pos c43] at H
              have c43b0 : (t358 == 0) = true := beq_iff_eq.mpr c43
              have c43b1 : (t358 != 0) = false := bne_eq_false_iff_eq.mpr c43
              clear c43
              have H' := Ak H
              clear H
              have hcz44_0 : w8.cell? ⟨gb353, 0, none⟩ = some (.int .i64 a0_0) := (blk_cell BK353.out 0).trans rfl
              have hcz44_1 : w8.cell? ⟨gb353, 1, none⟩ = some (.slice A0_1 l0_1.length c0_1) := (blk_cell BK353.out 1).trans rfl
              have hfz44_0 := blk_frozen BK353.out 0
              have hfz44_1 := blk_frozen BK353.out 1
              go_wp2_with (first | ((with_reducible refine gate_callee (f := 16) rfl ?_); refine goesL_ (some 19) rfl rfl Try.func16 (by kernel_rfl) rfl #[.agg #[.int .i64 a0_0, .slice A0_1 l0_1.length c0_1]] rfl (by (try simp only [List.map_toArray, List.map_cons, List.map_nil]); first | done | rfl | (simp only [List.length_drop, List.length_take]; rfl)) ?_; (with_reducible refine (ratchetlaw03_Few.calls k a0_0 _ _ l0_1 true _ ?side1 ?side2 A9.out).mono ?_); (case side1 => repeat (first | exact (Kd.C_below HR0_1.out HB.out) | (with_reducible refine Kd.C_alloc ?_ _) | (with_reducible refine Kd.C_drewN ?_ _) | (with_reducible refine Kd.C_drew ?_))); (case side2 => exact HC0_1.out); rintro e w45 ⟨rfl, hb⟩; refine ⟨_, rfl, ?_⟩; have n0_ := Ak (blk_below (g := gb353) (o := .cells #[.int .i64 a0_0, .slice A0_1 l0_1.length c0_1] 24 (0, 0)) (by (with_reducible repeat (first | refine blk_drewN ?_ _ | refine blk_drew ?_ | refine blk_alloc ?_ _)); exact BK353.out) hb); have n1_ := Ak (below_step (by repeat (first | (with_reducible first | exact HB.out | apply below_alloc | apply pw_below_drewN | apply below_drew1 | refine below_set ?_ GE353.out) | exact HB.out)) hb); clear BK353; clear HB; have BK353 := n0_; have HB := n1_; clear n0_ n1_; (try clear hb); (try clear hb2); (try clear hk); (try clear hi); have hcz46_0 : w45.cell? ⟨gb353, 0, none⟩ = some (.int .i64 a0_0) := (blk_cell BK353.out 0).trans rfl; have hcz46_1 : w45.cell? ⟨gb353, 1, none⟩ = some (.slice A0_1 l0_1.length c0_1) := (blk_cell BK353.out 1).trans rfl; have hfz46_0 := blk_frozen BK353.out 0; have hfz46_1 := blk_frozen BK353.out 1) | (go_at_call 17; (with_reducible refine (ratchetref03_FormulaErr.calls k a0_0 _ _ l0_1 t356 _ ?side1 ?side2 A11.out).mono ?_); (case side1 => repeat (first | exact (Kd.C_below HR0_1.out HB.out) | (with_reducible refine Kd.C_alloc ?_ _) | (with_reducible refine Kd.C_drewN ?_ _) | (with_reducible refine Kd.C_drew ?_))); (case side2 => exact HC0_1.out); rintro e w47 ⟨rfl, hb⟩; have n0_ := Ak (blk_below (g := gb353) (o := .cells #[.int .i64 a0_0, .slice A0_1 l0_1.length c0_1] 24 (0, 0)) (by (with_reducible repeat (first | refine blk_drewN ?_ _ | refine blk_drew ?_ | refine blk_alloc ?_ _)); exact BK353.out) hb); have n1_ := Ak (below_step (by repeat (first | (with_reducible first | exact HB.out | apply below_alloc | apply pw_below_drewN | apply below_drew1 | refine below_set ?_ GE353.out) | exact HB.out)) hb); clear BK353; clear HB; have BK353 := n0_; have HB := n1_; clear n0_ n1_; (try clear hb); (try clear hb2); (try clear hk); (try clear hi)) | (go_at_call 18; (with_reducible refine (ratchetref03_FuelErr.calls a2 t358 _ A42.out).mono ?_); rintro e w' ⟨rfl, ⟨nd, rfl⟩⟩))
              go_meet
              case rel => exact ⟨_, (decide (a2 > 600)), (by first | rfl | (simp; done) | (simp [*]; done)), H', ⟨by first | omega | exact Nat.le_refl _⟩, ⟨by (with_reducible repeat (first | refine blk_drewN ?_ _ | refine blk_drew ?_ | refine blk_alloc ?_ _)); exact BK353.out⟩, ⟨by repeat (first | (with_reducible first | exact HB.out | apply below_alloc | apply pw_below_drewN | apply below_drew1 | refine below_set ?_ GE353.out) | exact HB.out)⟩⟩
            · rw [if_neg c43] at H
              have c43b0 : (t358 == 0) = false := beq_eq_false_iff_ne.mpr c43
              have c43b1 : (t358 != 0) = true := bne_iff_ne.mpr c43
              have H' := Ak H
              clear H
              have hcz48_0 : w8.cell? ⟨gb353, 0, none⟩ = some (.int .i64 a0_0) := (blk_cell BK353.out 0).trans rfl
              have hcz48_1 : w8.cell? ⟨gb353, 1, none⟩ = some (.slice A0_1 l0_1.length c0_1) := (blk_cell BK353.out 1).trans rfl
              have hfz48_0 := blk_frozen BK353.out 0
              have hfz48_1 := blk_frozen BK353.out 1
              go_wp2_with (first | ((with_reducible refine gate_callee (f := 16) rfl ?_); refine goesL_ (some 19) rfl rfl Try.func16 (by kernel_rfl) rfl #[.agg #[.int .i64 a0_0, .slice A0_1 l0_1.length c0_1]] rfl (by (try simp only [List.map_toArray, List.map_cons, List.map_nil]); first | done | rfl | (simp only [List.length_drop, List.length_take]; rfl)) ?_; (with_reducible refine (ratchetlaw03_Few.calls k a0_0 _ _ l0_1 true _ ?side1 ?side2 A9.out).mono ?_); (case side1 => repeat (first | exact (Kd.C_below HR0_1.out HB.out) | (with_reducible refine Kd.C_alloc ?_ _) | (with_reducible refine Kd.C_drewN ?_ _) | (with_reducible refine Kd.C_drew ?_))); (case side2 => exact HC0_1.out); rintro e w49 ⟨rfl, hb⟩; refine ⟨_, rfl, ?_⟩; have n0_ := Ak (blk_below (g := gb353) (o := .cells #[.int .i64 a0_0, .slice A0_1 l0_1.length c0_1] 24 (0, 0)) (by (with_reducible repeat (first | refine blk_drewN ?_ _ | refine blk_drew ?_ | refine blk_alloc ?_ _)); exact BK353.out) hb); have n1_ := Ak (below_step (by repeat (first | (with_reducible first | exact HB.out | apply below_alloc | apply pw_below_drewN | apply below_drew1 | refine below_set ?_ GE353.out) | exact HB.out)) hb); clear BK353; clear HB; have BK353 := n0_; have HB := n1_; clear n0_ n1_; (try clear hb); (try clear hb2); (try clear hk); (try clear hi); have hcz50_0 : w49.cell? ⟨gb353, 0, none⟩ = some (.int .i64 a0_0) := (blk_cell BK353.out 0).trans rfl; have hcz50_1 : w49.cell? ⟨gb353, 1, none⟩ = some (.slice A0_1 l0_1.length c0_1) := (blk_cell BK353.out 1).trans rfl; have hfz50_0 := blk_frozen BK353.out 0; have hfz50_1 := blk_frozen BK353.out 1) | (go_at_call 17; (with_reducible refine (ratchetref03_FormulaErr.calls k a0_0 _ _ l0_1 t356 _ ?side1 ?side2 A11.out).mono ?_); (case side1 => repeat (first | exact (Kd.C_below HR0_1.out HB.out) | (with_reducible refine Kd.C_alloc ?_ _) | (with_reducible refine Kd.C_drewN ?_ _) | (with_reducible refine Kd.C_drew ?_))); (case side2 => exact HC0_1.out); rintro e w51 ⟨rfl, hb⟩; have n0_ := Ak (blk_below (g := gb353) (o := .cells #[.int .i64 a0_0, .slice A0_1 l0_1.length c0_1] 24 (0, 0)) (by (with_reducible repeat (first | refine blk_drewN ?_ _ | refine blk_drew ?_ | refine blk_alloc ?_ _)); exact BK353.out) hb); have n1_ := Ak (below_step (by repeat (first | (with_reducible first | exact HB.out | apply below_alloc | apply pw_below_drewN | apply below_drew1 | refine below_set ?_ GE353.out) | exact HB.out)) hb); clear BK353; clear HB; have BK353 := n0_; have HB := n1_; clear n0_ n1_; (try clear hb); (try clear hb2); (try clear hk); (try clear hi)) | (go_at_call 18; (with_reducible refine (ratchetref03_FuelErr.calls a2 t358 _ A42.out).mono ?_); rintro e w' ⟨rfl, ⟨nd, rfl⟩⟩))
              go_meet
              case rel => exact ⟨_, (false), (by first | rfl | (simp; done) | (simp [*]; done)), H', ⟨by first | omega | exact Nat.le_refl _⟩, ⟨by (with_reducible repeat (first | refine blk_drewN ?_ _ | refine blk_drew ?_ | refine blk_alloc ?_ _)); exact BK353.out⟩, ⟨by repeat (first | (with_reducible first | exact HB.out | apply below_alloc | apply pw_below_drewN | apply below_drew1 | refine below_set ?_ GE353.out) | exact HB.out)⟩⟩
      · replace c10 := Bool.eq_false_iff.mpr c10
        subst c10
        have H1 : (ratchetlaw03_CnfFollows.j0 k l1 a2 true a0_0 l0_1) = some r := by rw [if_neg (show ¬ (false = true) by decide)] at H; exact H
        clear H
        have H := H1
        clear H1
        have H' := Ak H
        clear H
        have hcz52_0 : w8.cell? ⟨gb353, 0, none⟩ = some (.int .i64 a0_0) := (blk_cell BK353.out 0).trans rfl
        have hcz52_1 : w8.cell? ⟨gb353, 1, none⟩ = some (.slice A0_1 l0_1.length c0_1) := (blk_cell BK353.out 1).trans rfl
        have hfz52_0 := blk_frozen BK353.out 0
        have hfz52_1 := blk_frozen BK353.out 1
        go_wp2_with (first | ((with_reducible refine gate_callee (f := 16) rfl ?_); refine goesL_ (some 19) rfl rfl Try.func16 (by kernel_rfl) rfl #[.agg #[.int .i64 a0_0, .slice A0_1 l0_1.length c0_1]] rfl (by (try simp only [List.map_toArray, List.map_cons, List.map_nil]); first | done | rfl | (simp only [List.length_drop, List.length_take]; rfl)) ?_; (with_reducible refine (ratchetlaw03_Few.calls k a0_0 _ _ l0_1 false _ ?side1 ?side2 A9.out).mono ?_); (case side1 => repeat (first | exact (Kd.C_below HR0_1.out HB.out) | (with_reducible refine Kd.C_alloc ?_ _) | (with_reducible refine Kd.C_drewN ?_ _) | (with_reducible refine Kd.C_drew ?_))); (case side2 => exact HC0_1.out); rintro e w53 ⟨rfl, hb⟩; refine ⟨_, rfl, ?_⟩; have n0_ := Ak (blk_below (g := gb353) (o := .cells #[.int .i64 a0_0, .slice A0_1 l0_1.length c0_1] 24 (0, 0)) (by (with_reducible repeat (first | refine blk_drewN ?_ _ | refine blk_drew ?_ | refine blk_alloc ?_ _)); exact BK353.out) hb); have n1_ := Ak (below_step (by repeat (first | (with_reducible first | exact HB.out | apply below_alloc | apply pw_below_drewN | apply below_drew1 | refine below_set ?_ GE353.out) | exact HB.out)) hb); clear BK353; clear HB; have BK353 := n0_; have HB := n1_; clear n0_ n1_; (try clear hb); (try clear hb2); (try clear hk); (try clear hi)))
        go_meet
        case rel => exact ⟨_, (true), (by first | rfl | (simp; done) | (simp [*]; done)), H', ⟨by first | omega | exact Nat.le_refl _⟩, ⟨by (with_reducible repeat (first | refine blk_drewN ?_ _ | refine blk_drew ?_ | refine blk_alloc ?_ _)); exact BK353.out⟩, ⟨by repeat (first | (with_reducible first | exact HB.out | apply below_alloc | apply pw_below_drewN | apply below_drew1 | refine below_set ?_ GE353.out) | exact HB.out)⟩⟩
    case rest =>
      clear HC6
      try clear c1
      try clear c2
      try clear p2
      try clear c3
      try clear c4
      try clear c5
      try clear c6
      try clear c10
      try clear c12
      try clear c12b0
      try clear c12b1
      try clear c13
      try clear c13b0
      try clear c16
      try clear c19
      try clear c19b0
      try clear c19b1
      try clear c26
      try clear c26b0
      try clear c26b1
      try clear c37
      try clear c37b0
      try clear c37b1
      try clear c43
      try clear c43b0
      try clear c43b1
      try clear hcz14_0
      try clear hcz14_1
      try clear hcz16_0
      try clear hcz16_1
      try clear hcz18_0
      try clear hcz18_1
      try clear hcz20_0
      try clear hcz20_1
      try clear hcz22_0
      try clear hcz22_1
      try clear hcz24_0
      try clear hcz24_1
      try clear hcz27_0
      try clear hcz27_1
      try clear hcz29_0
      try clear hcz29_1
      try clear hcz31_0
      try clear hcz31_1
      try clear hcz32_0
      try clear hcz32_1
      try clear hcz34_0
      try clear hcz34_1
      try clear hcz36_0
      try clear hcz36_1
      try clear hcz38_0
      try clear hcz38_1
      try clear hcz40_0
      try clear hcz40_1
      try clear hcz44_0
      try clear hcz44_1
      try clear hcz46_0
      try clear hcz46_1
      try clear hcz48_0
      try clear hcz48_1
      try clear hcz50_0
      try clear hcz50_1
      try clear hcz52_0
      try clear hcz52_1
      try clear hfz14_0
      try clear hfz14_1
      try clear hfz16_0
      try clear hfz16_1
      try clear hfz18_0
      try clear hfz18_1
      try clear hfz20_0
      try clear hfz20_1
      try clear hfz22_0
      try clear hfz22_1
      try clear hfz24_0
      try clear hfz24_1
      try clear hfz27_0
      try clear hfz27_1
      try clear hfz29_0
      try clear hfz29_1
      try clear hfz31_0
      try clear hfz31_1
      try clear hfz32_0
      try clear hfz32_1
      try clear hfz34_0
      try clear hfz34_1
      try clear hfz36_0
      try clear hfz36_1
      try clear hfz38_0
      try clear hfz38_1
      try clear hfz40_0
      try clear hfz40_1
      try clear hfz44_0
      try clear hfz44_1
      try clear hfz46_0
      try clear hfz46_1
      try clear hfz48_0
      try clear hfz48_1
      try clear hfz50_0
      try clear hfz50_1
      try clear hfz52_0
      try clear hfz52_1
      obtain ⟨kq, x44_5, rfl, HA, HJ5, BK353, HB⟩ := hcut
      cases kq with
      | zero => exact absurd HA.out (by simp [ratchetlaw03_CnfFollows.j0])
      | succ kj5 =>
        have H := HA.out
        clear HA
        simp only [ratchetlaw03_CnfFollows.j0] at H
        by_cases c54 : x44_5 = true
        · subst c54
          have H1 : (some true) = some r := by rw [if_pos rfl] at H; exact H
          clear H
          have H := H1
          clear H1
          obtain rfl := Option.some.inj H
          go_wp2
          go_ret
          exact ⟨by first | rfl | (simp [errW_none, errW_some] <;> rfl) | (simp [*, errW_none, errW_some] <;> rfl), by repeat (first | (with_reducible first | exact HB.out | apply below_alloc | apply pw_below_drewN | apply below_drew1 | refine below_set ?_ GE353.out) | exact HB.out)⟩
        · replace c54 := Bool.eq_false_iff.mpr c54
          subst c54
          have H1 : ((ratchetref03_Copy.f kj5 a0_0 l0_1).bind fun bt359 => ((ratchetbase_CopyInts.f l1).bind fun t363 => ((cnf_FollowsFrom.f bt359.1 bt359.2 t363 a2).bind fun bt366 => ((ratchetref03_FormulaErr.f kj5 a0_0 l0_1).bind fun t368 => (if t368 = 0 then ((ratchetref03_ClauseErr.f kj5 a0_0 l1).bind fun t369 => (ratchetlaw03_CnfFollows.j1 kj5 l1 a2 bt366.1 bt366.2 t369 a0_0 l0_1)) else (ratchetlaw03_CnfFollows.j1 kj5 l1 a2 bt366.1 bt366.2 t368 a0_0 l0_1)))))) = some r := by rw [if_neg (show ¬ (false = true) by decide)] at H; exact H
          clear H
          have H := H1
          clear H1
          replace H := Option.bind_eq_some_iff.mp H
          obtain ⟨⟨t359, t360⟩, A550, H⟩ := H
          replace H : ((ratchetbase_CopyInts.f l1).bind fun t363 => ((cnf_FollowsFrom.f t359 t360 t363 a2).bind fun bt366 => ((ratchetref03_FormulaErr.f kj5 a0_0 l0_1).bind fun t368 => (if t368 = 0 then ((ratchetref03_ClauseErr.f kj5 a0_0 l1).bind fun t369 => (ratchetlaw03_CnfFollows.j1 kj5 l1 a2 bt366.1 bt366.2 t369 a0_0 l0_1)) else (ratchetlaw03_CnfFollows.j1 kj5 l1 a2 bt366.1 bt366.2 t368 a0_0 l0_1))))) = some r := H
          have A55 := Ak A550
          clear A550
          replace H := Option.bind_eq_some_iff.mp H
          obtain ⟨t363, A560, H⟩ := H
          replace H : ((cnf_FollowsFrom.f t359 t360 t363 a2).bind fun bt366 => ((ratchetref03_FormulaErr.f kj5 a0_0 l0_1).bind fun t368 => (if t368 = 0 then ((ratchetref03_ClauseErr.f kj5 a0_0 l1).bind fun t369 => (ratchetlaw03_CnfFollows.j1 kj5 l1 a2 bt366.1 bt366.2 t369 a0_0 l0_1)) else (ratchetlaw03_CnfFollows.j1 kj5 l1 a2 bt366.1 bt366.2 t368 a0_0 l0_1)))) = some r := H
          have A56 := Ak A560
          clear A560
          replace H := Option.bind_eq_some_iff.mp H
          obtain ⟨⟨t366, t367⟩, A570, H⟩ := H
          replace H : ((ratchetref03_FormulaErr.f kj5 a0_0 l0_1).bind fun t368 => (if t368 = 0 then ((ratchetref03_ClauseErr.f kj5 a0_0 l1).bind fun t369 => (ratchetlaw03_CnfFollows.j1 kj5 l1 a2 t366 t367 t369 a0_0 l0_1)) else (ratchetlaw03_CnfFollows.j1 kj5 l1 a2 t366 t367 t368 a0_0 l0_1))) = some r := H
          have A57 := Ak A570
          clear A570
          replace H := Option.bind_eq_some_iff.mp H
          obtain ⟨t368, A580, H⟩ := H
          replace H : (if t368 = 0 then ((ratchetref03_ClauseErr.f kj5 a0_0 l1).bind fun t369 => (ratchetlaw03_CnfFollows.j1 kj5 l1 a2 t366 t367 t369 a0_0 l0_1)) else (ratchetlaw03_CnfFollows.j1 kj5 l1 a2 t366 t367 t368 a0_0 l0_1)) = some r := H
          have A58 := Ak A580
          clear A580
          have HC59 := Ak H
          clear H
          have hcz60_0 : wc.cell? ⟨gb353, 0, none⟩ = some (.int .i64 a0_0) := (blk_cell BK353.out 0).trans rfl
          have hcz60_1 : wc.cell? ⟨gb353, 1, none⟩ = some (.slice A0_1 l0_1.length c0_1) := (blk_cell BK353.out 1).trans rfl
          have hfz60_0 := blk_frozen BK353.out 0
          have hfz60_1 := blk_frozen BK353.out 1
          go_upto_if 57 with (first | ((with_reducible refine gate_callee (f := 9) rfl ?_); refine goesL_ (some 47) rfl rfl Try.func9 (by kernel_rfl) rfl #[.agg #[.int .i64 a0_0, .slice A0_1 l0_1.length c0_1]] rfl (by (try simp only [List.map_toArray, List.map_cons, List.map_nil]); first | done | rfl | (simp only [List.length_drop, List.length_take]; rfl)) ?_; (with_reducible refine (ratchetref03_Copy.calls kj5 a0_0 _ _ l0_1 t359 t360 _ ?side1 ?side2 A55.out).mono ?_); (case side1 => repeat (first | exact (Kd.C_below HR0_1.out HB.out) | (with_reducible refine Kd.C_alloc ?_ _) | (with_reducible refine Kd.C_drewN ?_ _) | (with_reducible refine Kd.C_drew ?_))); (case side2 => exact HC0_1.out); rintro e w61 ⟨v361, rfl, ho0, hb⟩; refine ⟨_, rfl, ?_⟩; have n0_ := Ak (Kd.S_lower ho0 (below_size (by repeat (first | (with_reducible first | exact HB.out | apply below_alloc | apply pw_below_drewN | apply below_drew1 | refine below_set ?_ GE353.out) | exact HB.out)))); have n1_ := Ak (blk_below (g := gb353) (o := .cells #[.int .i64 a0_0, .slice A0_1 l0_1.length c0_1] 24 (0, 0)) (by (with_reducible repeat (first | refine blk_drewN ?_ _ | refine blk_drew ?_ | refine blk_alloc ?_ _)); exact BK353.out) hb); have n2_ := Ak (below_step (by repeat (first | (with_reducible first | exact HB.out | apply below_alloc | apply pw_below_drewN | apply below_drew1 | refine below_set ?_ GE353.out) | exact HB.out)) hb); clear BK353; clear HB; have HO362 := n0_; have BK353 := n1_; have HB := n2_; clear n0_ n1_ n2_; (try clear hb); (try clear hb2); (try clear hk); (try clear hi); (try clear ho0)) | ((with_reducible refine gate_callee (f := 11) rfl ?_); refine goesL_ (some 49) rfl rfl Try.func11 (by kernel_rfl) rfl #[.slice A1 l1.length c1] rfl (by (try simp only [List.map_toArray, List.map_cons, List.map_nil]); first | done | rfl | (simp only [List.length_drop, List.length_take]; rfl)) ?_; (with_reducible refine (ratchetbase_CopyInts.calls _ _ l1 t363 _ ?side1 ?side2 A56.out).mono ?_); (case side1 => repeat (first | exact (Kd.C_below HR1.out HB.out) | (with_reducible refine Kd.C_alloc ?_ _) | (with_reducible refine Kd.C_drewN ?_ _) | (with_reducible refine Kd.C_drew ?_))); (case side2 => exact HC1.out); rintro e w62 ⟨v364, rfl, ho0, hb⟩; refine ⟨_, rfl, ?_⟩; have n0_ := Ak (Kd.S_elder' (by (with_reducible repeat (first | apply Kd.S_alloc | apply Kd.S_drewN | apply Kd.S_drew)); exact HO362.out) (Kd.R_base ho0) hb); have n1_ := Ak (Kd.R_lower ho0 (below_size (by repeat (first | (with_reducible first | exact HB.out | apply below_alloc | apply pw_below_drewN | apply below_drew1 | refine below_set ?_ GE353.out) | exact HB.out)))); have n2_ := Ak (blk_below (g := gb353) (o := .cells #[.int .i64 a0_0, .slice A0_1 l0_1.length c0_1] 24 (0, 0)) (by (with_reducible repeat (first | refine blk_drewN ?_ _ | refine blk_drew ?_ | refine blk_alloc ?_ _)); exact BK353.out) hb); have n3_ := Ak (below_step (by repeat (first | (with_reducible first | exact HB.out | apply below_alloc | apply pw_below_drewN | apply below_drew1 | refine below_set ?_ GE353.out) | exact HB.out)) hb); clear HO362; clear BK353; clear HB; have HO362 := n0_; have HO365 := n1_; have BK353 := n2_; have HB := n3_; clear n0_ n1_ n2_ n3_; (try clear hb); (try clear hb2); (try clear hk); (try clear hi); (try clear ho0); obtain ⟨Ao63, co63, eo63⟩ := Kd.S_slice HO362.out; subst eo63; obtain ⟨Ao64, co64, eo64⟩ := Kd.R_slice HO365.out; subst eo64) | ((with_reducible refine gate_callee (f := 19) rfl ?_); refine goesL_ (some 51) rfl rfl Try.func19 (by kernel_rfl) rfl #[.agg #[.int .i64 t359, .slice Ao63 t360.length co63], .slice Ao64 t363.length co64, .int .i64 a2] rfl (by (try simp only [List.map_toArray, List.map_cons, List.map_nil]); first | done | rfl | (simp only [List.length_drop, List.length_take]; rfl)) ?_; (with_reducible refine (cnf_FollowsFrom.calls t359 _ _ t360 _ _ t363 a2 t366 t367 _ ?side1 ?side2 ?side3 ?side4 A57.out).mono ?_); (case side1 => repeat (first | exact (Kd.S_reads' HO362.out).2.2 | (with_reducible refine Kd.C_alloc ?_ _) | (with_reducible refine Kd.C_drewN ?_ _) | (with_reducible refine Kd.C_drew ?_))); (case side2 => exact (Kd.S_reads' HO362.out).2.1); (case side3 => repeat (first | exact (Kd.R_reads' HO365.out).2.2 | (with_reducible refine Kd.C_alloc ?_ _) | (with_reducible refine Kd.C_drewN ?_ _) | (with_reducible refine Kd.C_drew ?_))); (case side4 => exact (Kd.R_reads' HO365.out).2.1); rintro e w65 ⟨rfl, hb⟩; refine ⟨_, rfl, ?_⟩; have n0_ := Ak (Kd.S_below (by (with_reducible repeat (first | apply Kd.S_alloc | apply Kd.S_drewN | apply Kd.S_drew)); exact HO362.out) hb); have n1_ := Ak (Kd.R_below (by (with_reducible repeat (first | apply Kd.R_alloc | apply Kd.R_drewN | apply Kd.R_drew)); exact HO365.out) hb); have n2_ := Ak (blk_below (g := gb353) (o := .cells #[.int .i64 a0_0, .slice A0_1 l0_1.length c0_1] 24 (0, 0)) (by (with_reducible repeat (first | refine blk_drewN ?_ _ | refine blk_drew ?_ | refine blk_alloc ?_ _)); exact BK353.out) hb); have n3_ := Ak (below_step (by repeat (first | (with_reducible first | exact HB.out | apply below_alloc | apply pw_below_drewN | apply below_drew1 | refine below_set ?_ GE353.out) | exact HB.out)) hb); clear HO362; clear HO365; clear BK353; clear HB; have HO362 := n0_; have HO365 := n1_; have BK353 := n2_; have HB := n3_; clear n0_ n1_ n2_ n3_; (try clear hb); (try clear hb2); (try clear hk); (try clear hi); have hcz66_0 : w65.cell? ⟨gb353, 0, none⟩ = some (.int .i64 a0_0) := (blk_cell BK353.out 0).trans rfl; have hcz66_1 : w65.cell? ⟨gb353, 1, none⟩ = some (.slice A0_1 l0_1.length c0_1) := (blk_cell BK353.out 1).trans rfl; have hfz66_0 := blk_frozen BK353.out 0; have hfz66_1 := blk_frozen BK353.out 1) | ((with_reducible refine gate_callee (f := 17) rfl ?_); refine goesL_ (some 55) rfl rfl Try.func17 (by kernel_rfl) rfl #[.agg #[.int .i64 a0_0, .slice A0_1 l0_1.length c0_1]] rfl (by (try simp only [List.map_toArray, List.map_cons, List.map_nil]); first | done | rfl | (simp only [List.length_drop, List.length_take]; rfl)) ?_; (with_reducible refine (ratchetref03_FormulaErr.calls kj5 a0_0 _ _ l0_1 t368 _ ?side1 ?side2 A58.out).mono ?_); (case side1 => repeat (first | exact (Kd.C_below HR0_1.out HB.out) | (with_reducible refine Kd.C_alloc ?_ _) | (with_reducible refine Kd.C_drewN ?_ _) | (with_reducible refine Kd.C_drew ?_))); (case side2 => exact HC0_1.out); rintro e w67 ⟨rfl, hb⟩; refine ⟨_, rfl, ?_⟩; have n0_ := Ak (Kd.S_below (by (with_reducible repeat (first | apply Kd.S_alloc | apply Kd.S_drewN | apply Kd.S_drew)); exact HO362.out) hb); have n1_ := Ak (Kd.R_below (by (with_reducible repeat (first | apply Kd.R_alloc | apply Kd.R_drewN | apply Kd.R_drew)); exact HO365.out) hb); have n2_ := Ak (blk_below (g := gb353) (o := .cells #[.int .i64 a0_0, .slice A0_1 l0_1.length c0_1] 24 (0, 0)) (by (with_reducible repeat (first | refine blk_drewN ?_ _ | refine blk_drew ?_ | refine blk_alloc ?_ _)); exact BK353.out) hb); have n3_ := Ak (below_step (by repeat (first | (with_reducible first | exact HB.out | apply below_alloc | apply pw_below_drewN | apply below_drew1 | refine below_set ?_ GE353.out) | exact HB.out)) hb); clear HO362; clear HO365; clear BK353; clear HB; have HO362 := n0_; have HO365 := n1_; have BK353 := n2_; have HB := n3_; clear n0_ n1_ n2_ n3_; (try clear hb); (try clear hb2); (try clear hk); (try clear hi)))
          (try simp only [Act.put, La, Lb, Lc])
          go_cut [9] (fun v9 wc => ∃ (kq : Nat) (x9_58 : Int), v9 = .int .i64 x9_58 ∧ Aside0 (ratchetlaw03_CnfFollows.j1 kq l1 a2 t366 t367 x9_58 a0_0 l0_1 = some r) ∧ Aside0 (kq ≤ kj5) ∧ Aside0 (wc.heap[gb353]? = some (.cells #[.int .i64 a0_0, (.slice A0_1 l0_1.length c0_1)] 24 (0, 0))) ∧ Aside0 (Below w.heap.size w wc))
          case first =>
            have H := HC59.out
            clear HC59
            by_cases c68 : t368 = 0
            · rw [if_pos c68] at H
              have c68b0 : (t368 == 0) = true := beq_iff_eq.mpr c68
              have c68b1 : (t368 != 0) = false := bne_eq_false_iff_eq.mpr c68
              clear c68
              (first | rw [c68b0] | (simp only [i64_w, i32_w]; rw [c68b0]) | skip)
              replace H := Option.bind_eq_some_iff.mp H
              obtain ⟨t369, A690, H⟩ := H
              replace H : (ratchetlaw03_CnfFollows.j1 kj5 l1 a2 t366 t367 t369 a0_0 l0_1) = some r := H
              have A69 := Ak A690
              clear A690
              have H' := Ak H
              clear H
              have hcz70_0 : w67.cell? ⟨gb353, 0, none⟩ = some (.int .i64 a0_0) := (blk_cell BK353.out 0).trans rfl
              have hcz70_1 : w67.cell? ⟨gb353, 1, none⟩ = some (.slice A0_1 l0_1.length c0_1) := (blk_cell BK353.out 1).trans rfl
              have hfz70_0 := blk_frozen BK353.out 0
              have hfz70_1 := blk_frozen BK353.out 1
              go_wp2_with (first | ((with_reducible refine gate_callee (f := 20) rfl ?_); refine goesL_ (some 61) rfl rfl Try.func20 (by kernel_rfl) rfl #[.int .i64 a0_0, .slice A1 l1.length c1] rfl (by (try simp only [List.map_toArray, List.map_cons, List.map_nil]); first | done | rfl | (simp only [List.length_drop, List.length_take]; rfl)) ?_; (with_reducible refine (ratchetref03_ClauseErr.calls kj5 a0_0 _ _ l1 t369 _ ?side1 ?side2 A69.out).mono ?_); (case side1 => repeat (first | exact (Kd.C_below HR1.out HB.out) | (with_reducible refine Kd.C_alloc ?_ _) | (with_reducible refine Kd.C_drewN ?_ _) | (with_reducible refine Kd.C_drew ?_))); (case side2 => exact HC1.out); rintro e w71 ⟨rfl, hb⟩; refine ⟨_, rfl, ?_⟩; have n0_ := Ak (Kd.S_below (by (with_reducible repeat (first | apply Kd.S_alloc | apply Kd.S_drewN | apply Kd.S_drew)); exact HO362.out) hb); have n1_ := Ak (Kd.R_below (by (with_reducible repeat (first | apply Kd.R_alloc | apply Kd.R_drewN | apply Kd.R_drew)); exact HO365.out) hb); have n2_ := Ak (blk_below (g := gb353) (o := .cells #[.int .i64 a0_0, .slice A0_1 l0_1.length c0_1] 24 (0, 0)) (by (with_reducible repeat (first | refine blk_drewN ?_ _ | refine blk_drew ?_ | refine blk_alloc ?_ _)); exact BK353.out) hb); have n3_ := Ak (below_step (by repeat (first | (with_reducible first | exact HB.out | apply below_alloc | apply pw_below_drewN | apply below_drew1 | refine below_set ?_ GE353.out) | exact HB.out)) hb); clear HO362; clear HO365; clear BK353; clear HB; have HO362 := n0_; have HO365 := n1_; have BK353 := n2_; have HB := n3_; clear n0_ n1_ n2_ n3_; (try clear hb); (try clear hb2); (try clear hk); (try clear hi)))
              go_meet
              case rel => exact ⟨_, (t369), (by first | rfl | (simp; done) | (simp [*]; done)), H', ⟨by have := HJ5.out; first | omega | exact Nat.le_refl _⟩, ⟨by (with_reducible repeat (first | refine blk_drewN ?_ _ | refine blk_drew ?_ | refine blk_alloc ?_ _)); exact BK353.out⟩, ⟨by repeat (first | (with_reducible first | exact HB.out | apply below_alloc | apply pw_below_drewN | apply below_drew1 | refine below_set ?_ GE353.out) | exact HB.out)⟩⟩
            · rw [if_neg c68] at H
              have c68b0 : (t368 == 0) = false := beq_eq_false_iff_ne.mpr c68
              have c68b1 : (t368 != 0) = true := bne_iff_ne.mpr c68
              (first | rw [c68b0] | (simp only [i64_w, i32_w]; rw [c68b0]) | skip)
              have H' := Ak H
              clear H
              go_wp2
              go_meet
              case rel => exact ⟨_, (t368), (by first | rfl | (simp; done) | (simp [*]; done)), H', ⟨by have := HJ5.out; first | omega | exact Nat.le_refl _⟩, ⟨by (with_reducible repeat (first | refine blk_drewN ?_ _ | refine blk_drew ?_ | refine blk_alloc ?_ _)); exact BK353.out⟩, ⟨by repeat (first | (with_reducible first | exact HB.out | apply below_alloc | apply pw_below_drewN | apply below_drew1 | refine below_set ?_ GE353.out) | exact HB.out)⟩⟩
          case rest =>
            clear HC59
            try clear c1
            try clear c2
            try clear p2
            try clear c3
            try clear c4
            try clear c5
            try clear c6
            try clear c9
            try clear c10
            try clear c11
            try clear c12
            try clear c12b0
            try clear c12b1
            try clear c13
            try clear c13b0
            try clear c16
            try clear c17
            try clear c19
            try clear c19b0
            try clear c19b1
            try clear c20
            try clear c26
            try clear c26b0
            try clear c26b1
            try clear c37
            try clear c37b0
            try clear c37b1
            try clear c43
            try clear c43b0
            try clear c43b1
            try clear c54
            try clear c68
            try clear c68b0
            try clear c68b1
            try clear hcz14_0
            try clear hcz14_1
            try clear hcz16_0
            try clear hcz16_1
            try clear hcz18_0
            try clear hcz18_1
            try clear hcz20_0
            try clear hcz20_1
            try clear hcz22_0
            try clear hcz22_1
            try clear hcz24_0
            try clear hcz24_1
            try clear hcz27_0
            try clear hcz27_1
            try clear hcz29_0
            try clear hcz29_1
            try clear hcz31_0
            try clear hcz31_1
            try clear hcz32_0
            try clear hcz32_1
            try clear hcz34_0
            try clear hcz34_1
            try clear hcz36_0
            try clear hcz36_1
            try clear hcz38_0
            try clear hcz38_1
            try clear hcz40_0
            try clear hcz40_1
            try clear hcz44_0
            try clear hcz44_1
            try clear hcz46_0
            try clear hcz46_1
            try clear hcz48_0
            try clear hcz48_1
            try clear hcz50_0
            try clear hcz50_1
            try clear hcz52_0
            try clear hcz52_1
            try clear hcz60_0
            try clear hcz60_1
            try clear hcz66_0
            try clear hcz66_1
            try clear hcz70_0
            try clear hcz70_1
            try clear hfz14_0
            try clear hfz14_1
            try clear hfz16_0
            try clear hfz16_1
            try clear hfz18_0
            try clear hfz18_1
            try clear hfz20_0
            try clear hfz20_1
            try clear hfz22_0
            try clear hfz22_1
            try clear hfz24_0
            try clear hfz24_1
            try clear hfz27_0
            try clear hfz27_1
            try clear hfz29_0
            try clear hfz29_1
            try clear hfz31_0
            try clear hfz31_1
            try clear hfz32_0
            try clear hfz32_1
            try clear hfz34_0
            try clear hfz34_1
            try clear hfz36_0
            try clear hfz36_1
            try clear hfz38_0
            try clear hfz38_1
            try clear hfz40_0
            try clear hfz40_1
            try clear hfz44_0
            try clear hfz44_1
            try clear hfz46_0
            try clear hfz46_1
            try clear hfz48_0
            try clear hfz48_1
            try clear hfz50_0
            try clear hfz50_1
            try clear hfz52_0
            try clear hfz52_1
            try clear hfz60_0
            try clear hfz60_1
            try clear hfz66_0
            try clear hfz66_1
            try clear hfz70_0
            try clear hfz70_1
            try clear p2
            obtain ⟨kq, x9_58, rfl, HA, HJ58, BK353, HB⟩ := hcut
            cases kq with
            | zero => exact absurd HA.out (by simp [ratchetlaw03_CnfFollows.j1])
            | succ kj58 =>
              have H := HA.out
              clear HA
              simp only [ratchetlaw03_CnfFollows.j1] at H
              have HC72 := Ak H
              clear H
              go_upto_if 63 with (fail)
              go_cut [9] (fun v9 wc => ∃ (kq : Nat) (x9_71 : Int), v9 = .int .i64 x9_71 ∧ Aside0 (ratchetlaw03_CnfFollows.j2 kq l1 a2 t366 t367 x9_71 a0_0 l0_1 = some r) ∧ Aside0 (kq ≤ kj58) ∧ Aside0 (wc.heap[gb353]? = some (.cells #[.int .i64 a0_0, (.slice A0_1 l0_1.length c0_1)] 24 (0, 0))) ∧ Aside0 (Below w.heap.size w wc))
              case first =>
                have H := HC72.out
                clear HC72
                by_cases c73 : x9_58 = 0
                · rw [if_pos c73] at H
                  have c73b0 : (x9_58 == 0) = true := beq_iff_eq.mpr c73
                  have c73b1 : (x9_58 != 0) = false := bne_eq_false_iff_eq.mpr c73
                  clear c73
                  (first | rw [c73b0] | (simp only [i64_w, i32_w]; rw [c73b0]) | skip)
                  replace H := Option.bind_eq_some_iff.mp H
                  obtain ⟨t370, A740, H⟩ := H
                  replace H : (ratchetlaw03_CnfFollows.j2 kj58 l1 a2 t366 t367 t370 a0_0 l0_1) = some r := H
                  have A74 := Ak A740
                  clear A740
                  have H' := Ak H
                  clear H
                  go_wp2_with (first | ((with_reducible refine gate_callee (f := 18) rfl ?_); refine goesL_ (some 65) rfl rfl Try.func18 (by kernel_rfl) rfl #[.int .i64 a2] rfl (by (try simp only [List.map_toArray, List.map_cons, List.map_nil]); first | done | rfl | (simp only [List.length_drop, List.length_take]; rfl)) ?_; (with_reducible refine (ratchetref03_FuelErr.calls a2 t370 _ A74.out).mono ?_); rintro e w' ⟨rfl, ⟨nd, rfl⟩⟩; refine ⟨_, rfl, ?_⟩))
                  go_meet
                  case rel => exact ⟨_, (t370), (by first | rfl | (simp; done) | (simp [*]; done)), H', ⟨by have := HJ5.out; have := HJ58.out; first | omega | exact Nat.le_refl _⟩, ⟨by (with_reducible repeat (first | refine blk_drewN ?_ _ | refine blk_drew ?_ | refine blk_alloc ?_ _)); exact BK353.out⟩, ⟨by repeat (first | (with_reducible first | exact HB.out | apply below_alloc | apply pw_below_drewN | apply below_drew1 | refine below_set ?_ GE353.out) | exact HB.out)⟩⟩
                · rw [if_neg c73] at H
                  have c73b0 : (x9_58 == 0) = false := beq_eq_false_iff_ne.mpr c73
                  have c73b1 : (x9_58 != 0) = true := bne_iff_ne.mpr c73
                  (first | rw [c73b0] | (simp only [i64_w, i32_w]; rw [c73b0]) | skip)
                  have H' := Ak H
                  clear H
                  go_wp2
                  go_meet
                  case rel => exact ⟨_, (x9_58), (by first | rfl | (simp; done) | (simp [*]; done)), H', ⟨by have := HJ5.out; have := HJ58.out; first | omega | exact Nat.le_refl _⟩, ⟨by (with_reducible repeat (first | refine blk_drewN ?_ _ | refine blk_drew ?_ | refine blk_alloc ?_ _)); exact BK353.out⟩, ⟨by repeat (first | (with_reducible first | exact HB.out | apply below_alloc | apply pw_below_drewN | apply below_drew1 | refine below_set ?_ GE353.out) | exact HB.out)⟩⟩
              case rest =>
                clear HC72
                try clear c1
                try clear c2
                try clear p2
                try clear c3
                try clear c4
                try clear c5
                try clear c6
                try clear c7
                try clear c9
                try clear c10
                try clear c11
                try clear c12
                try clear c12b0
                try clear c12b1
                try clear c13
                try clear c13b0
                try clear c16
                try clear c17
                try clear c18
                try clear c19
                try clear c19b0
                try clear c19b1
                try clear c20
                try clear c26
                try clear c26b0
                try clear c26b1
                try clear c37
                try clear c37b0
                try clear c37b1
                try clear c43
                try clear c43b0
                try clear c43b1
                try clear c54
                try clear c68
                try clear c68b0
                try clear c68b1
                try clear c73
                try clear c73b0
                try clear c73b1
                try clear hcz14_0
                try clear hcz14_1
                try clear hcz16_0
                try clear hcz16_1
                try clear hcz18_0
                try clear hcz18_1
                try clear hcz20_0
                try clear hcz20_1
                try clear hcz22_0
                try clear hcz22_1
                try clear hcz24_0
                try clear hcz24_1
                try clear hcz27_0
                try clear hcz27_1
                try clear hcz29_0
                try clear hcz29_1
                try clear hcz31_0
                try clear hcz31_1
                try clear hcz32_0
                try clear hcz32_1
                try clear hcz34_0
                try clear hcz34_1
                try clear hcz36_0
                try clear hcz36_1
                try clear hcz38_0
                try clear hcz38_1
                try clear hcz40_0
                try clear hcz40_1
                try clear hcz44_0
                try clear hcz44_1
                try clear hcz46_0
                try clear hcz46_1
                try clear hcz48_0
                try clear hcz48_1
                try clear hcz50_0
                try clear hcz50_1
                try clear hcz52_0
                try clear hcz52_1
                try clear hcz60_0
                try clear hcz60_1
                try clear hcz66_0
                try clear hcz66_1
                try clear hcz70_0
                try clear hcz70_1
                try clear hfz14_0
                try clear hfz14_1
                try clear hfz16_0
                try clear hfz16_1
                try clear hfz18_0
                try clear hfz18_1
                try clear hfz20_0
                try clear hfz20_1
                try clear hfz22_0
                try clear hfz22_1
                try clear hfz24_0
                try clear hfz24_1
                try clear hfz27_0
                try clear hfz27_1
                try clear hfz29_0
                try clear hfz29_1
                try clear hfz31_0
                try clear hfz31_1
                try clear hfz32_0
                try clear hfz32_1
                try clear hfz34_0
                try clear hfz34_1
                try clear hfz36_0
                try clear hfz36_1
                try clear hfz38_0
                try clear hfz38_1
                try clear hfz40_0
                try clear hfz40_1
                try clear hfz44_0
                try clear hfz44_1
                try clear hfz46_0
                try clear hfz46_1
                try clear hfz48_0
                try clear hfz48_1
                try clear hfz50_0
                try clear hfz50_1
                try clear hfz52_0
                try clear hfz52_1
                try clear hfz60_0
                try clear hfz60_1
                try clear hfz66_0
                try clear hfz66_1
                try clear hfz70_0
                try clear hfz70_1
                try clear p2
                obtain ⟨kq, x9_71, rfl, HA, HJ71, BK353, HB⟩ := hcut
                cases kq with
                | zero => exact absurd HA.out (by simp [ratchetlaw03_CnfFollows.j2])
                | succ kj71 =>
                  have H := HA.out
                  clear HA
                  simp only [ratchetlaw03_CnfFollows.j2] at H
                  by_cases c75 : x9_71 = 0
                  · rw [if_pos c75] at H
                    have c75b0 : (x9_71 == 0) = true := beq_iff_eq.mpr c75
                    have c75b1 : (x9_71 != 0) = false := bne_eq_false_iff_eq.mpr c75
                    clear c75
                    replace H := Option.bind_eq_some_iff.mp H
                    obtain ⟨⟨t371, t372⟩, A760, H⟩ := H
                    replace H : ((ratchetref03_First.f kj71 t371 t372 a2).bind fun bt375 => (if bt375.2.2 = true then (if t367 = 0 then (ratchetlaw03_CnfFollows.j3 kj71 l1 t366 (t366 != (bt375.1 == false)) a0_0 l0_1) else (ratchetlaw03_CnfFollows.j3 kj71 l1 t366 true a0_0 l0_1)) else (if t367 = 28 then (some (!t366)) else (some false)))) = some r := H
                    have A76 := Ak A760
                    clear A760
                    replace H := Option.bind_eq_some_iff.mp H
                    obtain ⟨⟨t375, t376, t377⟩, A770, H⟩ := H
                    replace H : (if t377 = true then (if t367 = 0 then (ratchetlaw03_CnfFollows.j3 kj71 l1 t366 (t366 != (t375 == false)) a0_0 l0_1) else (ratchetlaw03_CnfFollows.j3 kj71 l1 t366 true a0_0 l0_1)) else (if t367 = 28 then (some (!t366)) else (some false))) = some r := H
                    have A77 := Ak A770
                    clear A770
                    by_cases c78 : t377 = true
                    · subst c78
                      have H1 : (if t367 = 0 then (ratchetlaw03_CnfFollows.j3 kj71 l1 t366 (t366 != (t375 == false)) a0_0 l0_1) else (ratchetlaw03_CnfFollows.j3 kj71 l1 t366 true a0_0 l0_1)) = some r := by rw [if_pos rfl] at H; exact H
                      clear H
                      have H := H1
                      clear H1
                      have HC79 := Ak H
                      clear H
                      have hcz80_0 : wc.cell? ⟨gb353, 0, none⟩ = some (.int .i64 a0_0) := (blk_cell BK353.out 0).trans rfl
                      have hcz80_1 : wc.cell? ⟨gb353, 1, none⟩ = some (.slice A0_1 l0_1.length c0_1) := (blk_cell BK353.out 1).trans rfl
                      have hfz80_0 := blk_frozen BK353.out 0
                      have hfz80_1 := blk_frozen BK353.out 1
                      go_upto_region 16 with (first | ((with_reducible refine gate_callee (f := 22) rfl ?_); refine goesL_ (some 78) rfl rfl Try.func22 (by kernel_rfl) rfl #[.agg #[.int .i64 a0_0, .slice A0_1 l0_1.length c0_1], .slice A1 l1.length c1] rfl (by (try simp only [List.map_toArray, List.map_cons, List.map_nil]); first | done | rfl | (simp only [List.length_drop, List.length_take]; rfl)) ?_; (with_reducible refine (ratchetref03_Against.calls kj71 a0_0 _ _ l0_1 _ _ l1 t371 t372 _ ?side1 ?side2 ?side3 ?side4 A76.out).mono ?_); (case side1 => repeat (first | exact (Kd.C_below HR0_1.out HB.out) | (with_reducible refine Kd.C_alloc ?_ _) | (with_reducible refine Kd.C_drewN ?_ _) | (with_reducible refine Kd.C_drew ?_))); (case side2 => exact HC0_1.out); (case side3 => repeat (first | exact (Kd.C_below HR1.out HB.out) | (with_reducible refine Kd.C_alloc ?_ _) | (with_reducible refine Kd.C_drewN ?_ _) | (with_reducible refine Kd.C_drew ?_))); (case side4 => exact HC1.out); rintro e w81 ⟨v373, rfl, ho0, hb⟩; refine ⟨_, rfl, ?_⟩; have n0_ := Ak (Kd.S_lower ho0 (below_size (by repeat (first | (with_reducible first | exact HB.out | apply below_alloc | apply pw_below_drewN | apply below_drew1 | refine below_set ?_ GE353.out) | exact HB.out)))); have n1_ := Ak (blk_below (g := gb353) (o := .cells #[.int .i64 a0_0, .slice A0_1 l0_1.length c0_1] 24 (0, 0)) (by (with_reducible repeat (first | refine blk_drewN ?_ _ | refine blk_drew ?_ | refine blk_alloc ?_ _)); exact BK353.out) hb); have n2_ := Ak (below_step (by repeat (first | (with_reducible first | exact HB.out | apply below_alloc | apply pw_below_drewN | apply below_drew1 | refine below_set ?_ GE353.out) | exact HB.out)) hb); clear BK353; clear HB; have HO374 := n0_; have BK353 := n1_; have HB := n2_; clear n0_ n1_ n2_; (try clear hb); (try clear hb2); (try clear hk); (try clear hi); (try clear ho0); obtain ⟨Ao82, co82, eo82⟩ := Kd.S_slice HO374.out; subst eo82) | ((with_reducible refine gate_callee (f := 21) rfl ?_); refine goesL_ (some 80) rfl rfl Try.func21 (by kernel_rfl) rfl #[.agg #[.int .i64 t371, .slice Ao82 t372.length co82], .int .i64 a2] rfl (by (try simp only [List.map_toArray, List.map_cons, List.map_nil]); first | done | rfl | (simp only [List.length_drop, List.length_take]; rfl)) ?_; (with_reducible refine (ratchetref03_First.calls kj71 t371 _ _ t372 a2 t375 t376 true _ ?side1 ?side2 A77.out).mono ?_); (case side1 => repeat (first | exact (Kd.S_reads' HO374.out).2.2 | (with_reducible refine Kd.C_alloc ?_ _) | (with_reducible refine Kd.C_drewN ?_ _) | (with_reducible refine Kd.C_drew ?_))); (case side2 => exact (Kd.S_reads' HO374.out).2.1); rintro e w83 ⟨Af_, nf_, cf_, rfl, hnf_, hb⟩; have hnil_ : ∀ w : World, (binOp .eql 25 (.slice Af_ nf_ cf_) (.slice none 0 0)).run Try.prog w = .ok (.bool (t375 == false)) w := fun w => (eql_slice_nil w 25 3 Af_ nf_ cf_ Try.underlying25).trans (by rw [hnf_]; cases t375 <;> rfl); clear hnf_; refine ⟨_, rfl, ?_⟩; have n0_ := Ak (Kd.S_below (by (with_reducible repeat (first | apply Kd.S_alloc | apply Kd.S_drewN | apply Kd.S_drew)); exact HO374.out) hb); have n1_ := Ak (blk_below (g := gb353) (o := .cells #[.int .i64 a0_0, .slice A0_1 l0_1.length c0_1] 24 (0, 0)) (by (with_reducible repeat (first | refine blk_drewN ?_ _ | refine blk_drew ?_ | refine blk_alloc ?_ _)); exact BK353.out) hb); have n2_ := Ak (below_step (by repeat (first | (with_reducible first | exact HB.out | apply below_alloc | apply pw_below_drewN | apply below_drew1 | refine below_set ?_ GE353.out) | exact HB.out)) hb); clear HO374; clear BK353; clear HB; have HO374 := n0_; have BK353 := n1_; have HB := n2_; clear n0_ n1_ n2_; (try clear hb); (try clear hb2); (try clear hk); (try clear hi)))
                      (try simp only [Act.put, La, Lb, Lc])
                      go_cut [99] (fun v99 wc => ∃ (kq : Nat) (x99_78 : Bool), v99 = .bool x99_78 ∧ Aside0 (ratchetlaw03_CnfFollows.j3 kq l1 t366 x99_78 a0_0 l0_1 = some r) ∧ Aside0 (kq ≤ kj71) ∧ Aside0 (wc.heap[gb353]? = some (.cells #[.int .i64 a0_0, (.slice A0_1 l0_1.length c0_1)] 24 (0, 0))) ∧ Aside0 (Below w.heap.size w wc))
                      case first =>
                        have H := HC79.out
                        clear HC79
                        by_cases c84 : t367 = 0
                        · rw [if_pos c84] at H
                          have c84b0 : (t367 == 0) = true := beq_iff_eq.mpr c84
                          have c84b1 : (t367 != 0) = false := bne_eq_false_iff_eq.mpr c84
                          clear c84
                          (first | rw [c84b0] | (simp only [i64_w, i32_w]; rw [c84b0]) | skip)
                          have H' := Ak H
                          clear H
                          go_wp2
                          go_meet
                          case rel => exact ⟨_, ((t366 != (t375 == false))), (by first | rfl | (simp; done) | (simp [*]; done) | (simp; cases t366 <;> cases t375 <;> rfl) | (cases t366 <;> cases t375 <;> rfl)), H', ⟨by have := HJ5.out; have := HJ58.out; have := HJ71.out; first | omega | exact Nat.le_refl _⟩, ⟨by (with_reducible repeat (first | refine blk_drewN ?_ _ | refine blk_drew ?_ | refine blk_alloc ?_ _)); exact BK353.out⟩, ⟨by repeat (first | (with_reducible first | exact HB.out | apply below_alloc | apply pw_below_drewN | apply below_drew1 | refine below_set ?_ GE353.out) | exact HB.out)⟩⟩
                        · rw [if_neg c84] at H
                          have c84b0 : (t367 == 0) = false := beq_eq_false_iff_ne.mpr c84
                          have c84b1 : (t367 != 0) = true := bne_iff_ne.mpr c84
                          (first | rw [c84b0] | (simp only [i64_w, i32_w]; rw [c84b0]) | skip)
                          have H' := Ak H
                          clear H
                          go_wp2
                          go_meet
                          case rel => exact ⟨_, (true), (by first | rfl | (simp; done) | (simp [*]; done)), H', ⟨by have := HJ5.out; have := HJ58.out; have := HJ71.out; first | omega | exact Nat.le_refl _⟩, ⟨by (with_reducible repeat (first | refine blk_drewN ?_ _ | refine blk_drew ?_ | refine blk_alloc ?_ _)); exact BK353.out⟩, ⟨by repeat (first | (with_reducible first | exact HB.out | apply below_alloc | apply pw_below_drewN | apply below_drew1 | refine below_set ?_ GE353.out) | exact HB.out)⟩⟩
                      case rest =>
                        clear HC79
                        try clear c1
                        try clear c2
                        try clear p2
                        try clear c3
                        try clear c4
                        try clear c5
                        try clear c6
                        try clear c7
                        try clear c8
                        try clear c9
                        try clear c10
                        try clear c11
                        try clear c12
                        try clear c12b0
                        try clear c12b1
                        try clear c13
                        try clear c13b0
                        try clear c16
                        try clear c17
                        try clear c18
                        try clear c19
                        try clear c19b0
                        try clear c19b1
                        try clear c20
                        try clear c21
                        try clear c22
                        try clear c26
                        try clear c26b0
                        try clear c26b1
                        try clear c37
                        try clear c37b0
                        try clear c37b1
                        try clear c43
                        try clear c43b0
                        try clear c43b1
                        try clear c54
                        try clear c68
                        try clear c68b0
                        try clear c68b1
                        try clear c73
                        try clear c73b0
                        try clear c73b1
                        try clear c75
                        try clear c75b0
                        try clear c75b1
                        try clear c78
                        try clear c84
                        try clear c84b0
                        try clear c84b1
                        try clear hcz14_0
                        try clear hcz14_1
                        try clear hcz16_0
                        try clear hcz16_1
                        try clear hcz18_0
                        try clear hcz18_1
                        try clear hcz20_0
                        try clear hcz20_1
                        try clear hcz22_0
                        try clear hcz22_1
                        try clear hcz24_0
                        try clear hcz24_1
                        try clear hcz27_0
                        try clear hcz27_1
                        try clear hcz29_0
                        try clear hcz29_1
                        try clear hcz31_0
                        try clear hcz31_1
                        try clear hcz32_0
                        try clear hcz32_1
                        try clear hcz34_0
                        try clear hcz34_1
                        try clear hcz36_0
                        try clear hcz36_1
                        try clear hcz38_0
                        try clear hcz38_1
                        try clear hcz40_0
                        try clear hcz40_1
                        try clear hcz44_0
                        try clear hcz44_1
                        try clear hcz46_0
                        try clear hcz46_1
                        try clear hcz48_0
                        try clear hcz48_1
                        try clear hcz50_0
                        try clear hcz50_1
                        try clear hcz52_0
                        try clear hcz52_1
                        try clear hcz60_0
                        try clear hcz60_1
                        try clear hcz66_0
                        try clear hcz66_1
                        try clear hcz70_0
                        try clear hcz70_1
                        try clear hcz80_0
                        try clear hcz80_1
                        try clear hfz14_0
                        try clear hfz14_1
                        try clear hfz16_0
                        try clear hfz16_1
                        try clear hfz18_0
                        try clear hfz18_1
                        try clear hfz20_0
                        try clear hfz20_1
                        try clear hfz22_0
                        try clear hfz22_1
                        try clear hfz24_0
                        try clear hfz24_1
                        try clear hfz27_0
                        try clear hfz27_1
                        try clear hfz29_0
                        try clear hfz29_1
                        try clear hfz31_0
                        try clear hfz31_1
                        try clear hfz32_0
                        try clear hfz32_1
                        try clear hfz34_0
                        try clear hfz34_1
                        try clear hfz36_0
                        try clear hfz36_1
                        try clear hfz38_0
                        try clear hfz38_1
                        try clear hfz40_0
                        try clear hfz40_1
                        try clear hfz44_0
                        try clear hfz44_1
                        try clear hfz46_0
                        try clear hfz46_1
                        try clear hfz48_0
                        try clear hfz48_1
                        try clear hfz50_0
                        try clear hfz50_1
                        try clear hfz52_0
                        try clear hfz52_1
                        try clear hfz60_0
                        try clear hfz60_1
                        try clear hfz66_0
                        try clear hfz66_1
                        try clear hfz70_0
                        try clear hfz70_1
                        try clear hfz80_0
                        try clear hfz80_1
                        try clear p2
                        obtain ⟨kq, x99_78, rfl, HA, HJ78, BK353, HB⟩ := hcut
                        cases kq with
                        | zero => exact absurd HA.out (by simp [ratchetlaw03_CnfFollows.j3])
                        | succ kj78 =>
                          have H := HA.out
                          clear HA
                          simp only [ratchetlaw03_CnfFollows.j3] at H
                          by_cases c85 : x99_78 = true
                          · subst c85
                            have H1 : (some false) = some r := by rw [if_pos rfl] at H; exact H
                            clear H
                            have H := H1
                            clear H1
                            obtain rfl := Option.some.inj H
                            go_wp2
                            go_ret
                            exact ⟨by first | rfl | (simp [errW_none, errW_some] <;> rfl) | (simp [*, errW_none, errW_some] <;> rfl), by repeat (first | (with_reducible first | exact HB.out | apply below_alloc | apply pw_below_drewN | apply below_drew1 | refine below_set ?_ GE353.out) | exact HB.out)⟩
                          · replace c85 := Bool.eq_false_iff.mpr c85
                            subst c85
                            have H1 : (ratchetlaw03_CnfFollows.l0 kj78 l1 t366 0 a0_0 l0_1) = some r := by rw [if_neg (show ¬ (false = true) by decide)] at H; exact H
                            clear H
                            have H := H1
                            clear H1
                            have H' := Ak H
                            clear H
                            go_wp2
                            go_loopg [13] kj78 (fun kq v13 w' => ∃ (x13_5 : Int), v13 = .int .i64 x13_5 ∧ Aside0 (ratchetlaw03_CnfFollows.l0 kq l1 t366 x13_5 a0_0 l0_1 = some r) ∧ Aside0 (kq ≤ kj78) ∧ Aside0 (w'.heap[gb353]? = some (.cells #[.int .i64 a0_0, (.slice A0_1 l0_1.length c0_1)] 24 (0, 0))) ∧ Aside0 (Below w.heap.size w w'))
                            case atStart => exact ⟨(0), (by first | rfl | (simp; done) | (simp [*]; done)), H', ⟨Nat.le_refl _⟩, ⟨by (with_reducible repeat (first | refine blk_drewN ?_ _ | refine blk_drew ?_ | refine blk_alloc ?_ _)); exact BK353.out⟩, ⟨by repeat (first | (with_reducible first | exact HB.out | apply below_alloc | apply pw_below_drewN | apply below_drew1 | refine below_set ?_ GE353.out) | exact HB.out)⟩⟩
                            case round =>
                              clear H'
                              try clear c1
                              try clear c2
                              try clear p2
                              try clear c3
                              try clear c4
                              try clear c5
                              try clear c6
                              try clear c7
                              try clear c8
                              try clear c9
                              try clear c10
                              try clear c11
                              try clear c12
                              try clear c12b0
                              try clear c12b1
                              try clear c13
                              try clear c13b0
                              try clear c16
                              try clear c17
                              try clear c18
                              try clear c19
                              try clear c19b0
                              try clear c19b1
                              try clear c20
                              try clear c21
                              try clear c22
                              try clear c26
                              try clear c26b0
                              try clear c26b1
                              try clear c37
                              try clear c37b0
                              try clear c37b1
                              try clear c43
                              try clear c43b0
                              try clear c43b1
                              try clear c54
                              try clear c68
                              try clear c68b0
                              try clear c68b1
                              try clear c73
                              try clear c73b0
                              try clear c73b1
                              try clear c75
                              try clear c75b0
                              try clear c75b1
                              try clear c78
                              try clear c84
                              try clear c84b0
                              try clear c84b1
                              try clear c85
                              try clear hcz14_0
                              try clear hcz14_1
                              try clear hcz16_0
                              try clear hcz16_1
                              try clear hcz18_0
                              try clear hcz18_1
                              try clear hcz20_0
                              try clear hcz20_1
                              try clear hcz22_0
                              try clear hcz22_1
                              try clear hcz24_0
                              try clear hcz24_1
                              try clear hcz27_0
                              try clear hcz27_1
                              try clear hcz29_0
                              try clear hcz29_1
                              try clear hcz31_0
                              try clear hcz31_1
                              try clear hcz32_0
                              try clear hcz32_1
                              try clear hcz34_0
                              try clear hcz34_1
                              try clear hcz36_0
                              try clear hcz36_1
                              try clear hcz38_0
                              try clear hcz38_1
                              try clear hcz40_0
                              try clear hcz40_1
                              try clear hcz44_0
                              try clear hcz44_1
                              try clear hcz46_0
                              try clear hcz46_1
                              try clear hcz48_0
                              try clear hcz48_1
                              try clear hcz50_0
                              try clear hcz50_1
                              try clear hcz52_0
                              try clear hcz52_1
                              try clear hcz60_0
                              try clear hcz60_1
                              try clear hcz66_0
                              try clear hcz66_1
                              try clear hcz70_0
                              try clear hcz70_1
                              try clear hcz80_0
                              try clear hcz80_1
                              try clear hfz14_0
                              try clear hfz14_1
                              try clear hfz16_0
                              try clear hfz16_1
                              try clear hfz18_0
                              try clear hfz18_1
                              try clear hfz20_0
                              try clear hfz20_1
                              try clear hfz22_0
                              try clear hfz22_1
                              try clear hfz24_0
                              try clear hfz24_1
                              try clear hfz27_0
                              try clear hfz27_1
                              try clear hfz29_0
                              try clear hfz29_1
                              try clear hfz31_0
                              try clear hfz31_1
                              try clear hfz32_0
                              try clear hfz32_1
                              try clear hfz34_0
                              try clear hfz34_1
                              try clear hfz36_0
                              try clear hfz36_1
                              try clear hfz38_0
                              try clear hfz38_1
                              try clear hfz40_0
                              try clear hfz40_1
                              try clear hfz44_0
                              try clear hfz44_1
                              try clear hfz46_0
                              try clear hfz46_1
                              try clear hfz48_0
                              try clear hfz48_1
                              try clear hfz50_0
                              try clear hfz50_1
                              try clear hfz52_0
                              try clear hfz52_1
                              try clear hfz60_0
                              try clear hfz60_1
                              try clear hfz66_0
                              try clear hfz66_1
                              try clear hfz70_0
                              try clear hfz70_1
                              try clear hfz80_0
                              try clear hfz80_1
                              try clear p2
                              obtain ⟨x13_5, rfl, HA, HK5, BK353, HB⟩ := hrel
                              cases gk with
                              | zero => exact absurd HA.out (by simp [ratchetlaw03_CnfFollows.l0])
                              | succ k5 =>
                                have H := HA.out
                                clear HA
                                simp only [ratchetlaw03_CnfFollows.l0] at H
                                replace H := Option.bind_eq_some_iff.mp H
                                obtain ⟨t378, A860, H⟩ := H
                                replace H : (if x13_5 < t378 then (ratchetlaw03_CnfFollows.l1 k5 l1 t366 x13_5 ([] : List Int) 0 a0_0 l0_1) else (some true)) = some r := H
                                have A86 := Ak A860
                                clear A860
                                by_cases c87 : x13_5 < t378
                                · rw [if_pos c87] at H
                                  have c87b0 : decide (x13_5 < t378) = true := decide_eq_true c87
                                  clear c87
                                  have H' := Ak H
                                  clear H
                                  have hcz88_0 : wr.cell? ⟨gb353, 0, none⟩ = some (.int .i64 a0_0) := (blk_cell BK353.out 0).trans rfl
                                  have hcz88_1 : wr.cell? ⟨gb353, 1, none⟩ = some (.slice A0_1 l0_1.length c0_1) := (blk_cell BK353.out 1).trans rfl
                                  have hfz88_0 := blk_frozen BK353.out 0
                                  have hfz88_1 := blk_frozen BK353.out 1
                                  go_wp2_with (first | ((with_reducible refine gate_callee (f := 23) rfl ?_); refine goesL_ (some 103) rfl rfl Try.func23 (by kernel_rfl) rfl #[.int .i64 a0_0] rfl (by (try simp only [List.map_toArray, List.map_cons, List.map_nil]); first | done | rfl | (simp only [List.length_drop, List.length_take]; rfl)) ?_; (with_reducible refine (ratchetbase_Power.calls a0_0 t378 _ A86.out).mono ?_); rintro e w' ⟨rfl, ⟨nd, rfl⟩⟩; refine ⟨_, rfl, ?_⟩))
                                  go_loopg [14, 15] k5 (fun kq v14 v15 w' => ∃ (x14_6 : List Int) (x15_6 : Int), v15 = .int .i64 x15_6 ∧ Aside0 (ratchetlaw03_CnfFollows.l1 kq l1 t366 x13_5 x14_6 x15_6 a0_0 l0_1 = some r) ∧ Aside0 (kq ≤ k5) ∧ Aside0 (Kd.R (Kd.int .i64) 3 w' w.heap.size (fun _ => True) v14 x14_6) ∧ Aside0 (w'.heap[gb353]? = some (.cells #[.int .i64 a0_0, (.slice A0_1 l0_1.length c0_1)] 24 (0, 0))) ∧ Aside0 (Below w.heap.size w w'))
                                  case atStart => exact ⟨(([] : List Int)), (0), (by first | rfl | (simp; done) | (simp [*]; done)), H', ⟨Nat.le_refl _⟩, ⟨by first | exact Kd.R_nil _ _ _ _ _ | exact Kd.N_nil _ _ _ _ _ | exact Kd.V_nil _ _ _ _ _ | exact Kd.Q_nil _ _ _ _ _ | exact Kd.S_nil _ _ _ _ _⟩, ⟨by (with_reducible repeat (first | refine blk_drewN ?_ _ | refine blk_drew ?_ | refine blk_alloc ?_ _)); exact BK353.out⟩, ⟨by repeat (first | (with_reducible first | exact HB.out | apply below_alloc | apply pw_below_drewN | apply below_drew1 | refine below_set ?_ GE353.out) | exact HB.out)⟩⟩
                                  case round =>
                                    clear H'
                                    try clear c1
                                    try clear c2
                                    try clear p2
                                    try clear c3
                                    try clear c4
                                    try clear c5
                                    try clear c6
                                    try clear c7
                                    try clear c8
                                    try clear c9
                                    try clear c10
                                    try clear c11
                                    try clear c12
                                    try clear c12b0
                                    try clear c12b1
                                    try clear c13
                                    try clear c13b0
                                    try clear c16
                                    try clear c17
                                    try clear c18
                                    try clear c19
                                    try clear c19b0
                                    try clear c19b1
                                    try clear c20
                                    try clear c21
                                    try clear c22
                                    try clear c23
                                    try clear c26
                                    try clear c26b0
                                    try clear c26b1
                                    try clear c37
                                    try clear c37b0
                                    try clear c37b1
                                    try clear c43
                                    try clear c43b0
                                    try clear c43b1
                                    try clear c54
                                    try clear c68
                                    try clear c68b0
                                    try clear c68b1
                                    try clear c73
                                    try clear c73b0
                                    try clear c73b1
                                    try clear c75
                                    try clear c75b0
                                    try clear c75b1
                                    try clear c78
                                    try clear c84
                                    try clear c84b0
                                    try clear c84b1
                                    try clear c85
                                    try clear c87
                                    try clear c87b0
                                    try clear hcz14_0
                                    try clear hcz14_1
                                    try clear hcz16_0
                                    try clear hcz16_1
                                    try clear hcz18_0
                                    try clear hcz18_1
                                    try clear hcz20_0
                                    try clear hcz20_1
                                    try clear hcz22_0
                                    try clear hcz22_1
                                    try clear hcz24_0
                                    try clear hcz24_1
                                    try clear hcz27_0
                                    try clear hcz27_1
                                    try clear hcz29_0
                                    try clear hcz29_1
                                    try clear hcz31_0
                                    try clear hcz31_1
                                    try clear hcz32_0
                                    try clear hcz32_1
                                    try clear hcz34_0
                                    try clear hcz34_1
                                    try clear hcz36_0
                                    try clear hcz36_1
                                    try clear hcz38_0
                                    try clear hcz38_1
                                    try clear hcz40_0
                                    try clear hcz40_1
                                    try clear hcz44_0
                                    try clear hcz44_1
                                    try clear hcz46_0
                                    try clear hcz46_1
                                    try clear hcz48_0
                                    try clear hcz48_1
                                    try clear hcz50_0
                                    try clear hcz50_1
                                    try clear hcz52_0
                                    try clear hcz52_1
                                    try clear hcz60_0
                                    try clear hcz60_1
                                    try clear hcz66_0
                                    try clear hcz66_1
                                    try clear hcz70_0
                                    try clear hcz70_1
                                    try clear hcz80_0
                                    try clear hcz80_1
                                    try clear hcz88_0
                                    try clear hcz88_1
                                    try clear hfz14_0
                                    try clear hfz14_1
                                    try clear hfz16_0
                                    try clear hfz16_1
                                    try clear hfz18_0
                                    try clear hfz18_1
                                    try clear hfz20_0
                                    try clear hfz20_1
                                    try clear hfz22_0
                                    try clear hfz22_1
                                    try clear hfz24_0
                                    try clear hfz24_1
                                    try clear hfz27_0
                                    try clear hfz27_1
                                    try clear hfz29_0
                                    try clear hfz29_1
                                    try clear hfz31_0
                                    try clear hfz31_1
                                    try clear hfz32_0
                                    try clear hfz32_1
                                    try clear hfz34_0
                                    try clear hfz34_1
                                    try clear hfz36_0
                                    try clear hfz36_1
                                    try clear hfz38_0
                                    try clear hfz38_1
                                    try clear hfz40_0
                                    try clear hfz40_1
                                    try clear hfz44_0
                                    try clear hfz44_1
                                    try clear hfz46_0
                                    try clear hfz46_1
                                    try clear hfz48_0
                                    try clear hfz48_1
                                    try clear hfz50_0
                                    try clear hfz50_1
                                    try clear hfz52_0
                                    try clear hfz52_1
                                    try clear hfz60_0
                                    try clear hfz60_1
                                    try clear hfz66_0
                                    try clear hfz66_1
                                    try clear hfz70_0
                                    try clear hfz70_1
                                    try clear hfz80_0
                                    try clear hfz80_1
                                    try clear hfz88_0
                                    try clear hfz88_1
                                    try clear p2
                                    obtain ⟨x14_6, x15_6, rfl, HA, HK6, HO_14, BK353, HB⟩ := hrel
                                    cases gk with
                                    | zero => exact absurd HA.out (by simp [ratchetlaw03_CnfFollows.l1])
                                    | succ k6 =>
                                      have H := HA.out
                                      clear HA
                                      simp only [ratchetlaw03_CnfFollows.l1] at H
                                      by_cases c89 : x15_6 < a0_0
                                      · rw [if_pos c89] at H
                                        have c89b0 : decide (x15_6 < a0_0) = true := decide_eq_true c89
                                        clear c89
                                        replace H := Option.bind_eq_some_iff.mp H
                                        obtain ⟨t379, A900, H⟩ := H
                                        replace H : (if t379 = 0 then (none) else (if x14_6.length < 17592186044416 then (ratchetlaw03_CnfFollows.l1 k6 l1 t366 x13_5 (x14_6 ++ [Int.tmod (wrap64 (Int.tdiv x13_5 t379)) 2]) (wrap64 (x15_6 + 1)) a0_0 l0_1) else (none))) = some r := H
                                        have A90 := Ak A900
                                        clear A900
                                        by_cases c91 : t379 = 0
                                        · rw [if_pos c91] at H
                                          exact absurd H (by simp)
                                        · rw [if_neg c91] at H
                                          have c91b0 : (t379 == 0) = false := beq_eq_false_iff_ne.mpr c91
                                          have c91b1 : (t379 != 0) = true := bne_iff_ne.mpr c91
                                          by_cases c92 : x14_6.length < 17592186044416
                                          · rw [if_pos c92] at H
                                            have LMc92 := Ak c92
                                            clear c92
                                            obtain ⟨y380, hy380⟩ : ∃ y_ : List Int, y_ = (x14_6 ++ [Int.tmod (wrap64 (Int.tdiv x13_5 t379)) 2]) := ⟨_, rfl⟩
                                            replace H : (ratchetlaw03_CnfFollows.l1 k6 l1 t366 x13_5 y380 (wrap64 (x15_6 + 1)) a0_0 l0_1) = some r := by first | (rw [hy380]; with_reducible exact H) | (have H2_ := (Option.bind_some _ _).symm.trans H; rw [hy380]; with_reducible exact H2_) | (have H2_ := (Option.bind_some _ _).symm.trans H; with_reducible exact H2_) | with_reducible exact H | (rw [hy380]; exact H) | exact H
                                            have Ny380 := Ak hy380
                                            clear hy380
                                            have H' := Ak H
                                            clear H
                                            have hcz93_0 : wr.cell? ⟨gb353, 0, none⟩ = some (.int .i64 a0_0) := (blk_cell BK353.out 0).trans rfl
                                            have hcz93_1 : wr.cell? ⟨gb353, 1, none⟩ = some (.slice A0_1 l0_1.length c0_1) := (blk_cell BK353.out 1).trans rfl
                                            have hfz93_0 := blk_frozen BK353.out 0
                                            have hfz93_1 := blk_frozen BK353.out 1
                                            go_wp2_with (first | ((with_reducible refine gate_callee (f := 23) rfl ?_); refine goesL_ (some 116) rfl rfl Try.func23 (by kernel_rfl) rfl #[.int .i64 x15_6] rfl (by (try simp only [List.map_toArray, List.map_cons, List.map_nil]); first | done | rfl | (simp only [List.length_drop, List.length_take]; rfl)) ?_; (with_reducible refine (ratchetbase_Power.calls x15_6 t379 _ A90.out).mono ?_); rintro e w' ⟨rfl, ⟨nd, rfl⟩⟩; refine ⟨_, rfl, ?_⟩) | ((with_reducible refine gate_builtin (b := .append) (xs := #[.tmp 113, .tmp 119]) rfl ?_); (try (refine gate_guard (by rfl) ?_; dsimp only)); at_builtin; refine Kd.R_append (Kd.int .i64) (w0 := w) w.heap.size rfl (.tmp 113) (.tmp 119) 25 3 (.int .i64 0) 8 rfl Try.underlying25 info3 rfl (by decide) (by omega) u14 x14_6 (Int.tmod (wrap64 (Int.tdiv x13_5 t379)) 2) [.int .i64 (Int.tmod (wrap64 (Int.tdiv x13_5 t379)) 2)] (fun _ => True) (fun _ => False) rfl rfl ?aP (fun _ hk => hk.elim) ?aF ?aO ?aB ?aS ?aL ?_; (case aP => exact rfl); (case aB => exact (by repeat (first | (with_reducible first | exact HB.out | apply below_alloc | apply pw_below_drewN | apply below_drew1 | refine below_set ?_ GE353.out) | exact HB.out))); (case aF => exact (fun _ _ => trivial)); (case aO => exact (by (with_reducible repeat (first | apply Kd.R_alloc | apply Kd.R_drewN | apply Kd.R_drew)); exact HO_14.out)); (case aS => exact (below_size (by repeat (first | (with_reducible first | exact HB.out | apply below_alloc | apply pw_below_drewN | apply below_drew1 | refine below_set ?_ GE353.out) | exact HB.out)))); (case aL => have := LMc92.out; omega); intro v381 w94 ho hb hg hat; rw [← Ny380.out] at ho; have n0_ := Ak (blk_grown (g := gb353) (o := .cells #[.int .i64 a0_0, .slice A0_1 l0_1.length c0_1] 24 (0, 0)) (by (with_reducible repeat (first | refine blk_drewN ?_ _ | refine blk_drew ?_ | refine blk_alloc ?_ _)); exact BK353.out) hg (Kd.R_ne HO_14.out BK353.out (by decide))); have n1_ := Ak (hb); have n2_ := Ak (ho); clear BK353; clear HB; clear HO_14; have BK353 := n0_; have HB := n1_; have HO382 := n2_; clear n0_ n1_ n2_; clear ho hb hg hat))
                                            go_roundg k6
                                            case measure => have := HJ5.out; have := HJ58.out; have := HJ71.out; have := HJ78.out; have := HK5.out; have := HK6.out; omega
                                            case rel => exact ⟨(y380), (wrap64 (x15_6 + 1)), (by first | rfl | (simp; done) | (simp [*]; done)), H', ⟨by have := HJ5.out; have := HJ58.out; have := HJ71.out; have := HJ78.out; have := HK5.out; have := HK6.out; omega⟩, ⟨by (with_reducible repeat (first | apply Kd.R_alloc | apply Kd.R_drewN | apply Kd.R_drew)); exact HO382.out⟩, ⟨by (with_reducible repeat (first | refine blk_drewN ?_ _ | refine blk_drew ?_ | refine blk_alloc ?_ _)); exact BK353.out⟩, ⟨by repeat (first | (with_reducible first | exact HB.out | apply below_alloc | apply pw_below_drewN | apply below_drew1 | refine below_set ?_ GE353.out) | exact HB.out)⟩⟩
                                          · rw [if_neg c92] at H
                                            exact absurd H (by simp)
                                      · rw [if_neg c89] at H
                                        have c89b0 : decide (x15_6 < a0_0) = false := decide_eq_false c89
                                        clear c89
                                        by_cases c95 : t366 = true
                                        · subst c95
                                          have H1 : ((ratchetref03_False.f k6 a0_0 l0_1 x14_6).bind fun t383 => (if (t383.length : Int) = 0 then ((ratchetref03_IsTrue.f k6 l1 x14_6).bind fun t386 => (if t386 = true then (ratchetlaw03_CnfFollows.l0 k6 l1 true (wrap64 (x13_5 + 1)) a0_0 l0_1) else (some false))) else (ratchetlaw03_CnfFollows.l0 k6 l1 true (wrap64 (x13_5 + 1)) a0_0 l0_1))) = some r := by rw [if_pos rfl] at H; exact H
                                          clear H
                                          have H := H1
                                          clear H1
                                          replace H := Option.bind_eq_some_iff.mp H
                                          obtain ⟨t383, A960, H⟩ := H
                                          replace H : (if (t383.length : Int) = 0 then ((ratchetref03_IsTrue.f k6 l1 x14_6).bind fun t386 => (if t386 = true then (ratchetlaw03_CnfFollows.l0 k6 l1 true (wrap64 (x13_5 + 1)) a0_0 l0_1) else (some false))) else (ratchetlaw03_CnfFollows.l0 k6 l1 true (wrap64 (x13_5 + 1)) a0_0 l0_1)) = some r := H
                                          have A96 := Ak A960
                                          clear A960
                                          by_cases c97 : (t383.length : Int) = 0
                                          · rw [if_pos c97] at H
                                            have c97b0 : ((t383.length : Int) == 0) = true := beq_iff_eq.mpr c97
                                            have c97b1 : ((t383.length : Int) != 0) = false := bne_eq_false_iff_eq.mpr c97
                                            clear c97
                                            replace H := Option.bind_eq_some_iff.mp H
                                            obtain ⟨t386, A980, H⟩ := H
                                            replace H : (if t386 = true then (ratchetlaw03_CnfFollows.l0 k6 l1 true (wrap64 (x13_5 + 1)) a0_0 l0_1) else (some false)) = some r := H
                                            have A98 := Ak A980
                                            clear A980
                                            by_cases c99 : t386 = true
                                            · subst c99
                                              have H1 : (ratchetlaw03_CnfFollows.l0 k6 l1 true (wrap64 (x13_5 + 1)) a0_0 l0_1) = some r := by rw [if_pos rfl] at H; exact H
                                              clear H
                                              have H := H1
                                              clear H1
                                              have H' := Ak H
                                              clear H
                                              have hcz100_0 : wr.cell? ⟨gb353, 0, none⟩ = some (.int .i64 a0_0) := (blk_cell BK353.out 0).trans rfl
                                              have hcz100_1 : wr.cell? ⟨gb353, 1, none⟩ = some (.slice A0_1 l0_1.length c0_1) := (blk_cell BK353.out 1).trans rfl
                                              have hfz100_0 := blk_frozen BK353.out 0
                                              have hfz100_1 := blk_frozen BK353.out 1
                                              obtain ⟨Ao101, co101, eo101⟩ := Kd.R_slice HO_14.out
                                              subst eo101
                                              go_wp2_with (first | (go_at_call 15; (with_reducible refine (ratchetref03_False.calls k6 a0_0 _ _ l0_1 _ _ x14_6 t383 _ ?side1 ?side2 ?side3 ?side4 A96.out).mono ?_); (case side1 => repeat (first | exact (Kd.C_below HR0_1.out HB.out) | (with_reducible refine Kd.C_alloc ?_ _) | (with_reducible refine Kd.C_drewN ?_ _) | (with_reducible refine Kd.C_drew ?_))); (case side2 => exact HC0_1.out); (case side3 => repeat (first | exact (Kd.R_reads' HO_14.out).2.2 | (with_reducible refine Kd.C_alloc ?_ _) | (with_reducible refine Kd.C_drewN ?_ _) | (with_reducible refine Kd.C_drew ?_))); (case side4 => exact (Kd.R_reads' HO_14.out).2.1); rintro e w102 ⟨v384, rfl, ho0, hb⟩; have n0_ := Ak (Kd.R_elder' (by (with_reducible repeat (first | apply Kd.R_alloc | apply Kd.R_drewN | apply Kd.R_drew)); exact HO_14.out) (Kd.R_base ho0) hb); have n1_ := Ak (Kd.R_lower (Kd.R_new' ho0 (Kd.R_lt (by (with_reducible repeat (first | apply Kd.R_alloc | apply Kd.R_drewN | apply Kd.R_drew)); exact HO_14.out))) (below_size (by repeat (first | (with_reducible first | exact HB.out | apply below_alloc | apply pw_below_drewN | apply below_drew1 | refine below_set ?_ GE353.out) | exact HB.out)))); have n2_ := Ak (blk_below (g := gb353) (o := .cells #[.int .i64 a0_0, .slice A0_1 l0_1.length c0_1] 24 (0, 0)) (by (with_reducible repeat (first | refine blk_drewN ?_ _ | refine blk_drew ?_ | refine blk_alloc ?_ _)); exact BK353.out) hb); have n3_ := Ak (below_step (by repeat (first | (with_reducible first | exact HB.out | apply below_alloc | apply pw_below_drewN | apply below_drew1 | refine below_set ?_ GE353.out) | exact HB.out)) hb); clear HO_14; clear BK353; clear HB; have HO_14 := n0_; have HO385 := n1_; have BK353 := n2_; have HB := n3_; clear n0_ n1_ n2_ n3_; (try clear hb); (try clear hb2); (try clear hk); (try clear hi); (try clear ho0); obtain ⟨Ao103, co103, eo103⟩ := Kd.R_slice HO385.out; subst eo103) | (go_at_call 24; (with_reducible refine (ratchetref03_IsTrue.calls k6 _ _ l1 _ _ x14_6 true _ ?side1 ?side2 ?side3 ?side4 A98.out).mono ?_); (case side1 => repeat (first | exact (Kd.C_below HR1.out HB.out) | (with_reducible refine Kd.C_alloc ?_ _) | (with_reducible refine Kd.C_drewN ?_ _) | (with_reducible refine Kd.C_drew ?_))); (case side2 => exact HC1.out); (case side3 => repeat (first | exact (Kd.R_reads' HO_14.out).2.2 | (with_reducible refine Kd.C_alloc ?_ _) | (with_reducible refine Kd.C_drewN ?_ _) | (with_reducible refine Kd.C_drew ?_))); (case side4 => exact (Kd.R_reads' HO_14.out).2.1); rintro e w' ⟨rfl, ⟨nd, rfl⟩⟩))
                                              go_roundg k6
                                              case measure => have := HJ5.out; have := HJ58.out; have := HJ71.out; have := HJ78.out; have := HK5.out; have := HK6.out; omega
                                              case rel => exact ⟨(wrap64 (x13_5 + 1)), (by first | rfl | (simp; done) | (simp [*]; done)), H', ⟨by have := HJ5.out; have := HJ58.out; have := HJ71.out; have := HJ78.out; have := HK5.out; have := HK6.out; omega⟩, ⟨by (with_reducible repeat (first | refine blk_drewN ?_ _ | refine blk_drew ?_ | refine blk_alloc ?_ _)); exact BK353.out⟩, ⟨by repeat (first | (with_reducible first | exact HB.out | apply below_alloc | apply pw_below_drewN | apply below_drew1 | refine below_set ?_ GE353.out) | exact HB.out)⟩⟩
                                            · replace c99 := Bool.eq_false_iff.mpr c99
                                              subst c99
                                              have H1 : (some false) = some r := by rw [if_neg (show ¬ (false = true) by decide)] at H; exact H
                                              clear H
                                              have H := H1
                                              clear H1
                                              obtain rfl := Option.some.inj H
                                              have hcz104_0 : wr.cell? ⟨gb353, 0, none⟩ = some (.int .i64 a0_0) := (blk_cell BK353.out 0).trans rfl
                                              have hcz104_1 : wr.cell? ⟨gb353, 1, none⟩ = some (.slice A0_1 l0_1.length c0_1) := (blk_cell BK353.out 1).trans rfl
                                              have hfz104_0 := blk_frozen BK353.out 0
                                              have hfz104_1 := blk_frozen BK353.out 1
                                              obtain ⟨Ao105, co105, eo105⟩ := Kd.R_slice HO_14.out
                                              subst eo105
                                              go_wp2_with (first | (go_at_call 15; (with_reducible refine (ratchetref03_False.calls k6 a0_0 _ _ l0_1 _ _ x14_6 t383 _ ?side1 ?side2 ?side3 ?side4 A96.out).mono ?_); (case side1 => repeat (first | exact (Kd.C_below HR0_1.out HB.out) | (with_reducible refine Kd.C_alloc ?_ _) | (with_reducible refine Kd.C_drewN ?_ _) | (with_reducible refine Kd.C_drew ?_))); (case side2 => exact HC0_1.out); (case side3 => repeat (first | exact (Kd.R_reads' HO_14.out).2.2 | (with_reducible refine Kd.C_alloc ?_ _) | (with_reducible refine Kd.C_drewN ?_ _) | (with_reducible refine Kd.C_drew ?_))); (case side4 => exact (Kd.R_reads' HO_14.out).2.1); rintro e w106 ⟨v384, rfl, ho0, hb⟩; have n0_ := Ak (Kd.R_elder' (by (with_reducible repeat (first | apply Kd.R_alloc | apply Kd.R_drewN | apply Kd.R_drew)); exact HO_14.out) (Kd.R_base ho0) hb); have n1_ := Ak (Kd.R_lower (Kd.R_new' ho0 (Kd.R_lt (by (with_reducible repeat (first | apply Kd.R_alloc | apply Kd.R_drewN | apply Kd.R_drew)); exact HO_14.out))) (below_size (by repeat (first | (with_reducible first | exact HB.out | apply below_alloc | apply pw_below_drewN | apply below_drew1 | refine below_set ?_ GE353.out) | exact HB.out)))); have n2_ := Ak (blk_below (g := gb353) (o := .cells #[.int .i64 a0_0, .slice A0_1 l0_1.length c0_1] 24 (0, 0)) (by (with_reducible repeat (first | refine blk_drewN ?_ _ | refine blk_drew ?_ | refine blk_alloc ?_ _)); exact BK353.out) hb); have n3_ := Ak (below_step (by repeat (first | (with_reducible first | exact HB.out | apply below_alloc | apply pw_below_drewN | apply below_drew1 | refine below_set ?_ GE353.out) | exact HB.out)) hb); clear HO_14; clear BK353; clear HB; have HO_14 := n0_; have HO385 := n1_; have BK353 := n2_; have HB := n3_; clear n0_ n1_ n2_ n3_; (try clear hb); (try clear hb2); (try clear hk); (try clear hi); (try clear ho0); obtain ⟨Ao107, co107, eo107⟩ := Kd.R_slice HO385.out; subst eo107) | (go_at_call 24; (with_reducible refine (ratchetref03_IsTrue.calls k6 _ _ l1 _ _ x14_6 false _ ?side1 ?side2 ?side3 ?side4 A98.out).mono ?_); (case side1 => repeat (first | exact (Kd.C_below HR1.out HB.out) | (with_reducible refine Kd.C_alloc ?_ _) | (with_reducible refine Kd.C_drewN ?_ _) | (with_reducible refine Kd.C_drew ?_))); (case side2 => exact HC1.out); (case side3 => repeat (first | exact (Kd.R_reads' HO_14.out).2.2 | (with_reducible refine Kd.C_alloc ?_ _) | (with_reducible refine Kd.C_drewN ?_ _) | (with_reducible refine Kd.C_drew ?_))); (case side4 => exact (Kd.R_reads' HO_14.out).2.1); rintro e w' ⟨rfl, ⟨nd, rfl⟩⟩))
                                              go_ret
                                              exact ⟨by first | rfl | (simp [errW_none, errW_some] <;> rfl) | (simp [*, errW_none, errW_some] <;> rfl), by repeat (first | (with_reducible first | exact HB.out | apply below_alloc | apply pw_below_drewN | apply below_drew1 | refine below_set ?_ GE353.out) | exact HB.out)⟩
                                          · rw [if_neg c97] at H
                                            have c97b0 : ((t383.length : Int) == 0) = false := beq_eq_false_iff_ne.mpr c97
                                            have c97b1 : ((t383.length : Int) != 0) = true := bne_iff_ne.mpr c97
                                            have c97b2 : ¬ (t383 = []) := fun h_ => c97 (by rw [h_]; rfl)
                                            have H' := Ak H
                                            clear H
                                            have hcz108_0 : wr.cell? ⟨gb353, 0, none⟩ = some (.int .i64 a0_0) := (blk_cell BK353.out 0).trans rfl
                                            have hcz108_1 : wr.cell? ⟨gb353, 1, none⟩ = some (.slice A0_1 l0_1.length c0_1) := (blk_cell BK353.out 1).trans rfl
                                            have hfz108_0 := blk_frozen BK353.out 0
                                            have hfz108_1 := blk_frozen BK353.out 1
                                            obtain ⟨Ao109, co109, eo109⟩ := Kd.R_slice HO_14.out
                                            subst eo109
                                            go_wp2_with (first | (go_at_call 15; (with_reducible refine (ratchetref03_False.calls k6 a0_0 _ _ l0_1 _ _ x14_6 t383 _ ?side1 ?side2 ?side3 ?side4 A96.out).mono ?_); (case side1 => repeat (first | exact (Kd.C_below HR0_1.out HB.out) | (with_reducible refine Kd.C_alloc ?_ _) | (with_reducible refine Kd.C_drewN ?_ _) | (with_reducible refine Kd.C_drew ?_))); (case side2 => exact HC0_1.out); (case side3 => repeat (first | exact (Kd.R_reads' HO_14.out).2.2 | (with_reducible refine Kd.C_alloc ?_ _) | (with_reducible refine Kd.C_drewN ?_ _) | (with_reducible refine Kd.C_drew ?_))); (case side4 => exact (Kd.R_reads' HO_14.out).2.1); rintro e w110 ⟨v384, rfl, ho0, hb⟩; have n0_ := Ak (Kd.R_elder' (by (with_reducible repeat (first | apply Kd.R_alloc | apply Kd.R_drewN | apply Kd.R_drew)); exact HO_14.out) (Kd.R_base ho0) hb); have n1_ := Ak (Kd.R_lower (Kd.R_new' ho0 (Kd.R_lt (by (with_reducible repeat (first | apply Kd.R_alloc | apply Kd.R_drewN | apply Kd.R_drew)); exact HO_14.out))) (below_size (by repeat (first | (with_reducible first | exact HB.out | apply below_alloc | apply pw_below_drewN | apply below_drew1 | refine below_set ?_ GE353.out) | exact HB.out)))); have n2_ := Ak (blk_below (g := gb353) (o := .cells #[.int .i64 a0_0, .slice A0_1 l0_1.length c0_1] 24 (0, 0)) (by (with_reducible repeat (first | refine blk_drewN ?_ _ | refine blk_drew ?_ | refine blk_alloc ?_ _)); exact BK353.out) hb); have n3_ := Ak (below_step (by repeat (first | (with_reducible first | exact HB.out | apply below_alloc | apply pw_below_drewN | apply below_drew1 | refine below_set ?_ GE353.out) | exact HB.out)) hb); clear HO_14; clear BK353; clear HB; have HO_14 := n0_; have HO385 := n1_; have BK353 := n2_; have HB := n3_; clear n0_ n1_ n2_ n3_; (try clear hb); (try clear hb2); (try clear hk); (try clear hi); (try clear ho0); obtain ⟨Ao111, co111, eo111⟩ := Kd.R_slice HO385.out; subst eo111))
                                            go_roundg k6
                                            case measure => have := HJ5.out; have := HJ58.out; have := HJ71.out; have := HJ78.out; have := HK5.out; have := HK6.out; omega
                                            case rel => exact ⟨(wrap64 (x13_5 + 1)), (by first | rfl | (simp; done) | (simp [*]; done)), H', ⟨by have := HJ5.out; have := HJ58.out; have := HJ71.out; have := HJ78.out; have := HK5.out; have := HK6.out; omega⟩, ⟨by (with_reducible repeat (first | refine blk_drewN ?_ _ | refine blk_drew ?_ | refine blk_alloc ?_ _)); exact BK353.out⟩, ⟨by repeat (first | (with_reducible first | exact HB.out | apply below_alloc | apply pw_below_drewN | apply below_drew1 | refine below_set ?_ GE353.out) | exact HB.out)⟩⟩
                                        · replace c95 := Bool.eq_false_iff.mpr c95
                                          subst c95
                                          have H1 : (ratchetlaw03_CnfFollows.l0 k6 l1 false (wrap64 (x13_5 + 1)) a0_0 l0_1) = some r := by rw [if_neg (show ¬ (false = true) by decide)] at H; exact H
                                          clear H
                                          have H := H1
                                          clear H1
                                          have H' := Ak H
                                          clear H
                                          have hcz112_0 : wr.cell? ⟨gb353, 0, none⟩ = some (.int .i64 a0_0) := (blk_cell BK353.out 0).trans rfl
                                          have hcz112_1 : wr.cell? ⟨gb353, 1, none⟩ = some (.slice A0_1 l0_1.length c0_1) := (blk_cell BK353.out 1).trans rfl
                                          have hfz112_0 := blk_frozen BK353.out 0
                                          have hfz112_1 := blk_frozen BK353.out 1
                                          go_wp2
                                          go_roundg k6
                                          case measure => have := HJ5.out; have := HJ58.out; have := HJ71.out; have := HJ78.out; have := HK5.out; have := HK6.out; omega
                                          case rel => exact ⟨(wrap64 (x13_5 + 1)), (by first | rfl | (simp; done) | (simp [*]; done)), H', ⟨by have := HJ5.out; have := HJ58.out; have := HJ71.out; have := HJ78.out; have := HK5.out; have := HK6.out; omega⟩, ⟨by (with_reducible repeat (first | refine blk_drewN ?_ _ | refine blk_drew ?_ | refine blk_alloc ?_ _)); exact BK353.out⟩, ⟨by repeat (first | (with_reducible first | exact HB.out | apply below_alloc | apply pw_below_drewN | apply below_drew1 | refine below_set ?_ GE353.out) | exact HB.out)⟩⟩
                                · rw [if_neg c87] at H
                                  have c87b0 : decide (x13_5 < t378) = false := decide_eq_false c87
                                  clear c87
                                  obtain rfl := Option.some.inj H
                                  have hcz113_0 : wr.cell? ⟨gb353, 0, none⟩ = some (.int .i64 a0_0) := (blk_cell BK353.out 0).trans rfl
                                  have hcz113_1 : wr.cell? ⟨gb353, 1, none⟩ = some (.slice A0_1 l0_1.length c0_1) := (blk_cell BK353.out 1).trans rfl
                                  have hfz113_0 := blk_frozen BK353.out 0
                                  have hfz113_1 := blk_frozen BK353.out 1
                                  go_wp2_with (first | ((with_reducible refine gate_callee (f := 23) rfl ?_); refine goesL_ (some 103) rfl rfl Try.func23 (by kernel_rfl) rfl #[.int .i64 a0_0] rfl (by (try simp only [List.map_toArray, List.map_cons, List.map_nil]); first | done | rfl | (simp only [List.length_drop, List.length_take]; rfl)) ?_; (with_reducible refine (ratchetbase_Power.calls a0_0 t378 _ A86.out).mono ?_); rintro e w' ⟨rfl, ⟨nd, rfl⟩⟩; refine ⟨_, rfl, ?_⟩))
                                  go_ret
                                  exact ⟨by first | rfl | (simp [errW_none, errW_some] <;> rfl) | (simp [*, errW_none, errW_some] <;> rfl), by repeat (first | (with_reducible first | exact HB.out | apply below_alloc | apply pw_below_drewN | apply below_drew1 | refine below_set ?_ GE353.out) | exact HB.out)⟩
                    · replace c78 := Bool.eq_false_iff.mpr c78
                      subst c78
                      have H1 : (if t367 = 28 then (some (!t366)) else (some false)) = some r := by rw [if_neg (show ¬ (false = true) by decide)] at H; exact H
                      clear H
                      have H := H1
                      clear H1
                      by_cases c114 : t367 = 28
                      · rw [if_pos c114] at H
                        have c114b0 : (t367 == 28) = true := beq_iff_eq.mpr c114
                        have c114b1 : (t367 != 28) = false := bne_eq_false_iff_eq.mpr c114
                        clear c114
                        obtain rfl := Option.some.inj H
                        have hcz115_0 : wc.cell? ⟨gb353, 0, none⟩ = some (.int .i64 a0_0) := (blk_cell BK353.out 0).trans rfl
                        have hcz115_1 : wc.cell? ⟨gb353, 1, none⟩ = some (.slice A0_1 l0_1.length c0_1) := (blk_cell BK353.out 1).trans rfl
                        have hfz115_0 := blk_frozen BK353.out 0
                        have hfz115_1 := blk_frozen BK353.out 1
                        go_wp2_with (first | ((with_reducible refine gate_callee (f := 22) rfl ?_); refine goesL_ (some 78) rfl rfl Try.func22 (by kernel_rfl) rfl #[.agg #[.int .i64 a0_0, .slice A0_1 l0_1.length c0_1], .slice A1 l1.length c1] rfl (by (try simp only [List.map_toArray, List.map_cons, List.map_nil]); first | done | rfl | (simp only [List.length_drop, List.length_take]; rfl)) ?_; (with_reducible refine (ratchetref03_Against.calls kj71 a0_0 _ _ l0_1 _ _ l1 t371 t372 _ ?side1 ?side2 ?side3 ?side4 A76.out).mono ?_); (case side1 => repeat (first | exact (Kd.C_below HR0_1.out HB.out) | (with_reducible refine Kd.C_alloc ?_ _) | (with_reducible refine Kd.C_drewN ?_ _) | (with_reducible refine Kd.C_drew ?_))); (case side2 => exact HC0_1.out); (case side3 => repeat (first | exact (Kd.C_below HR1.out HB.out) | (with_reducible refine Kd.C_alloc ?_ _) | (with_reducible refine Kd.C_drewN ?_ _) | (with_reducible refine Kd.C_drew ?_))); (case side4 => exact HC1.out); rintro e w116 ⟨v373, rfl, ho0, hb⟩; refine ⟨_, rfl, ?_⟩; have n0_ := Ak (Kd.S_lower ho0 (below_size (by repeat (first | (with_reducible first | exact HB.out | apply below_alloc | apply pw_below_drewN | apply below_drew1 | refine below_set ?_ GE353.out) | exact HB.out)))); have n1_ := Ak (blk_below (g := gb353) (o := .cells #[.int .i64 a0_0, .slice A0_1 l0_1.length c0_1] 24 (0, 0)) (by (with_reducible repeat (first | refine blk_drewN ?_ _ | refine blk_drew ?_ | refine blk_alloc ?_ _)); exact BK353.out) hb); have n2_ := Ak (below_step (by repeat (first | (with_reducible first | exact HB.out | apply below_alloc | apply pw_below_drewN | apply below_drew1 | refine below_set ?_ GE353.out) | exact HB.out)) hb); clear BK353; clear HB; have HO374 := n0_; have BK353 := n1_; have HB := n2_; clear n0_ n1_ n2_; (try clear hb); (try clear hb2); (try clear hk); (try clear hi); (try clear ho0); obtain ⟨Ao117, co117, eo117⟩ := Kd.S_slice HO374.out; subst eo117) | ((with_reducible refine gate_callee (f := 21) rfl ?_); refine goesL_ (some 80) rfl rfl Try.func21 (by kernel_rfl) rfl #[.agg #[.int .i64 t371, .slice Ao117 t372.length co117], .int .i64 a2] rfl (by (try simp only [List.map_toArray, List.map_cons, List.map_nil]); first | done | rfl | (simp only [List.length_drop, List.length_take]; rfl)) ?_; (with_reducible refine (ratchetref03_First.calls kj71 t371 _ _ t372 a2 t375 t376 false _ ?side1 ?side2 A77.out).mono ?_); (case side1 => repeat (first | exact (Kd.S_reads' HO374.out).2.2 | (with_reducible refine Kd.C_alloc ?_ _) | (with_reducible refine Kd.C_drewN ?_ _) | (with_reducible refine Kd.C_drew ?_))); (case side2 => exact (Kd.S_reads' HO374.out).2.1); rintro e w118 ⟨Af_, nf_, cf_, rfl, hnf_, hb⟩; have hnil_ : ∀ w : World, (binOp .eql 25 (.slice Af_ nf_ cf_) (.slice none 0 0)).run Try.prog w = .ok (.bool (t375 == false)) w := fun w => (eql_slice_nil w 25 3 Af_ nf_ cf_ Try.underlying25).trans (by rw [hnf_]; cases t375 <;> rfl); clear hnf_; refine ⟨_, rfl, ?_⟩; have n0_ := Ak (Kd.S_below (by (with_reducible repeat (first | apply Kd.S_alloc | apply Kd.S_drewN | apply Kd.S_drew)); exact HO374.out) hb); have n1_ := Ak (blk_below (g := gb353) (o := .cells #[.int .i64 a0_0, .slice A0_1 l0_1.length c0_1] 24 (0, 0)) (by (with_reducible repeat (first | refine blk_drewN ?_ _ | refine blk_drew ?_ | refine blk_alloc ?_ _)); exact BK353.out) hb); have n2_ := Ak (below_step (by repeat (first | (with_reducible first | exact HB.out | apply below_alloc | apply pw_below_drewN | apply below_drew1 | refine below_set ?_ GE353.out) | exact HB.out)) hb); clear HO374; clear BK353; clear HB; have HO374 := n0_; have BK353 := n1_; have HB := n2_; clear n0_ n1_ n2_; (try clear hb); (try clear hb2); (try clear hk); (try clear hi)))
                        go_ret
                        exact ⟨by first | rfl | (simp [errW_none, errW_some] <;> rfl) | (simp [*, errW_none, errW_some] <;> rfl), by repeat (first | (with_reducible first | exact HB.out | apply below_alloc | apply pw_below_drewN | apply below_drew1 | refine below_set ?_ GE353.out) | exact HB.out)⟩
                      · rw [if_neg c114] at H
                        have c114b0 : (t367 == 28) = false := beq_eq_false_iff_ne.mpr c114
                        have c114b1 : (t367 != 28) = true := bne_iff_ne.mpr c114
                        obtain rfl := Option.some.inj H
                        have hcz119_0 : wc.cell? ⟨gb353, 0, none⟩ = some (.int .i64 a0_0) := (blk_cell BK353.out 0).trans rfl
                        have hcz119_1 : wc.cell? ⟨gb353, 1, none⟩ = some (.slice A0_1 l0_1.length c0_1) := (blk_cell BK353.out 1).trans rfl
                        have hfz119_0 := blk_frozen BK353.out 0
                        have hfz119_1 := blk_frozen BK353.out 1
                        go_wp2_with (first | ((with_reducible refine gate_callee (f := 22) rfl ?_); refine goesL_ (some 78) rfl rfl Try.func22 (by kernel_rfl) rfl #[.agg #[.int .i64 a0_0, .slice A0_1 l0_1.length c0_1], .slice A1 l1.length c1] rfl (by (try simp only [List.map_toArray, List.map_cons, List.map_nil]); first | done | rfl | (simp only [List.length_drop, List.length_take]; rfl)) ?_; (with_reducible refine (ratchetref03_Against.calls kj71 a0_0 _ _ l0_1 _ _ l1 t371 t372 _ ?side1 ?side2 ?side3 ?side4 A76.out).mono ?_); (case side1 => repeat (first | exact (Kd.C_below HR0_1.out HB.out) | (with_reducible refine Kd.C_alloc ?_ _) | (with_reducible refine Kd.C_drewN ?_ _) | (with_reducible refine Kd.C_drew ?_))); (case side2 => exact HC0_1.out); (case side3 => repeat (first | exact (Kd.C_below HR1.out HB.out) | (with_reducible refine Kd.C_alloc ?_ _) | (with_reducible refine Kd.C_drewN ?_ _) | (with_reducible refine Kd.C_drew ?_))); (case side4 => exact HC1.out); rintro e w120 ⟨v373, rfl, ho0, hb⟩; refine ⟨_, rfl, ?_⟩; have n0_ := Ak (Kd.S_lower ho0 (below_size (by repeat (first | (with_reducible first | exact HB.out | apply below_alloc | apply pw_below_drewN | apply below_drew1 | refine below_set ?_ GE353.out) | exact HB.out)))); have n1_ := Ak (blk_below (g := gb353) (o := .cells #[.int .i64 a0_0, .slice A0_1 l0_1.length c0_1] 24 (0, 0)) (by (with_reducible repeat (first | refine blk_drewN ?_ _ | refine blk_drew ?_ | refine blk_alloc ?_ _)); exact BK353.out) hb); have n2_ := Ak (below_step (by repeat (first | (with_reducible first | exact HB.out | apply below_alloc | apply pw_below_drewN | apply below_drew1 | refine below_set ?_ GE353.out) | exact HB.out)) hb); clear BK353; clear HB; have HO374 := n0_; have BK353 := n1_; have HB := n2_; clear n0_ n1_ n2_; (try clear hb); (try clear hb2); (try clear hk); (try clear hi); (try clear ho0); obtain ⟨Ao121, co121, eo121⟩ := Kd.S_slice HO374.out; subst eo121) | ((with_reducible refine gate_callee (f := 21) rfl ?_); refine goesL_ (some 80) rfl rfl Try.func21 (by kernel_rfl) rfl #[.agg #[.int .i64 t371, .slice Ao121 t372.length co121], .int .i64 a2] rfl (by (try simp only [List.map_toArray, List.map_cons, List.map_nil]); first | done | rfl | (simp only [List.length_drop, List.length_take]; rfl)) ?_; (with_reducible refine (ratchetref03_First.calls kj71 t371 _ _ t372 a2 t375 t376 false _ ?side1 ?side2 A77.out).mono ?_); (case side1 => repeat (first | exact (Kd.S_reads' HO374.out).2.2 | (with_reducible refine Kd.C_alloc ?_ _) | (with_reducible refine Kd.C_drewN ?_ _) | (with_reducible refine Kd.C_drew ?_))); (case side2 => exact (Kd.S_reads' HO374.out).2.1); rintro e w122 ⟨Af_, nf_, cf_, rfl, hnf_, hb⟩; have hnil_ : ∀ w : World, (binOp .eql 25 (.slice Af_ nf_ cf_) (.slice none 0 0)).run Try.prog w = .ok (.bool (t375 == false)) w := fun w => (eql_slice_nil w 25 3 Af_ nf_ cf_ Try.underlying25).trans (by rw [hnf_]; cases t375 <;> rfl); clear hnf_; refine ⟨_, rfl, ?_⟩; have n0_ := Ak (Kd.S_below (by (with_reducible repeat (first | apply Kd.S_alloc | apply Kd.S_drewN | apply Kd.S_drew)); exact HO374.out) hb); have n1_ := Ak (blk_below (g := gb353) (o := .cells #[.int .i64 a0_0, .slice A0_1 l0_1.length c0_1] 24 (0, 0)) (by (with_reducible repeat (first | refine blk_drewN ?_ _ | refine blk_drew ?_ | refine blk_alloc ?_ _)); exact BK353.out) hb); have n2_ := Ak (below_step (by repeat (first | (with_reducible first | exact HB.out | apply below_alloc | apply pw_below_drewN | apply below_drew1 | refine below_set ?_ GE353.out) | exact HB.out)) hb); clear HO374; clear BK353; clear HB; have HO374 := n0_; have BK353 := n1_; have HB := n2_; clear n0_ n1_ n2_; (try clear hb); (try clear hb2); (try clear hk); (try clear hi)))
                        go_ret
                        exact ⟨by first | rfl | (simp [errW_none, errW_some] <;> rfl) | (simp [*, errW_none, errW_some] <;> rfl), by repeat (first | (with_reducible first | exact HB.out | apply below_alloc | apply pw_below_drewN | apply below_drew1 | refine below_set ?_ GE353.out) | exact HB.out)⟩
                  · rw [if_neg c75] at H
                    have c75b0 : (x9_71 == 0) = false := beq_eq_false_iff_ne.mpr c75
                    have c75b1 : (x9_71 != 0) = true := bne_iff_ne.mpr c75
                    by_cases c123 : t367 = x9_71
                    · rw [if_pos c123] at H
                      have c123b0 : (t367 == x9_71) = true := beq_iff_eq.mpr c123
                      have c123b1 : (t367 != x9_71) = false := bne_eq_false_iff_eq.mpr c123
                      clear c123
                      obtain rfl := Option.some.inj H
                      go_wp2
                      go_ret
                      exact ⟨by first | rfl | (simp [errW_none, errW_some] <;> rfl) | (simp [*, errW_none, errW_some] <;> rfl), by repeat (first | (with_reducible first | exact HB.out | apply below_alloc | apply pw_below_drewN | apply below_drew1 | refine below_set ?_ GE353.out) | exact HB.out)⟩
                    · rw [if_neg c123] at H
                      have c123b0 : (t367 == x9_71) = false := beq_eq_false_iff_ne.mpr c123
                      have c123b1 : (t367 != x9_71) = true := bne_iff_ne.mpr c123
                      obtain rfl := Option.some.inj H
                      go_wp2
                      go_ret
                      exact ⟨by first | rfl | (simp [errW_none, errW_some] <;> rfl) | (simp [*, errW_none, errW_some] <;> rfl), by repeat (first | (with_reducible first | exact HB.out | apply below_alloc | apply pw_below_drewN | apply below_drew1 | refine below_set ?_ GE353.out) | exact HB.out)⟩
  · replace c5 := Bool.eq_false_iff.mpr c5
    subst c5
    have H1 : (some false) = some r := by rw [if_neg (show ¬ (false = true) by decide)] at H; exact H
    clear H
    have H := H1
    clear H1
    obtain rfl := Option.some.inj H
    go_enter Try.func4, Try.ntmps4
    go_wp2_with (first | ((with_reducible refine gate_dst (N := 3) rfl ?_); (try (refine gate_guard (by rfl) ?_; dsimp only)); refine box_event ?hg (N := 3) ?hd (cs := #[.int .i64 a0_0, .slice A0_1 l0_1.length c0_1]) (t := 24) ?hr ?_; (case hd => rfl); (case hg => rfl); (case hr => first | (go_simp; done) | (go_simp; rfl)); intro gb353 hg w124 hbox hb; have n0_ := Ak (below_step (by repeat (first | (with_reducible first | exact HB.out | apply below_alloc | apply pw_below_drewN | apply below_drew1) | exact HB.out)) hb); have n1_ := Ak (hbox); have n2_ := Ak ((by rw [hg]; exact (below_size (by repeat (first | (with_reducible first | exact HB.out | apply below_alloc | apply pw_below_drewN | apply below_drew1) | exact HB.out))) : w.heap.size ≤ gb353)); have n3_ := Ak ((by rw [hg]; exact (below_size (by repeat (first | (with_reducible first | exact HB.out | apply below_alloc | apply pw_below_drewN | apply below_drew1) | exact HB.out))) : w.heap.size ≤ gb353)); clear HB; have HB := n0_; have BK353 := n1_; have GW353 := n2_; have GE353 := n3_; clear n0_ n1_ n2_ n3_; clear hb hbox hg) | ((with_reducible refine gate_callee (f := 6) rfl ?_); refine goesL_ (some 16) rfl rfl Try.func6 (by kernel_rfl) rfl #[] rfl (by (try simp only [List.map_toArray, List.map_cons, List.map_nil]); first | done | rfl | (simp only [List.length_drop, List.length_take]; rfl)) ?_; (with_reducible refine (ratchetlaw03_awake.calls  false _ A4.out).mono ?_); rintro e w125 ⟨rfl, hb⟩; refine ⟨_, rfl, ?_⟩; have n0_ := Ak (blk_below (g := gb353) (o := .cells #[.int .i64 a0_0, .slice A0_1 l0_1.length c0_1] 24 (0, 0)) (by (with_reducible repeat (first | refine blk_drewN ?_ _ | refine blk_drew ?_ | refine blk_alloc ?_ _)); exact BK353.out) hb); have n1_ := Ak (below_step (by repeat (first | (with_reducible first | exact HB.out | apply below_alloc | apply pw_below_drewN | apply below_drew1 | refine below_set ?_ GE353.out) | exact HB.out)) hb); clear BK353; clear HB; have BK353 := n0_; have HB := n1_; clear n0_ n1_; (try clear hb); (try clear hb2); (try clear hk); (try clear hi)))
    go_ret
    exact ⟨by first | rfl | (simp [errW_none, errW_some] <;> rfl) | (simp [*, errW_none, errW_some] <;> rfl), by repeat (first | (with_reducible first | exact HB.out | apply below_alloc | apply pw_below_drewN | apply below_drew1 | refine below_set ?_ GE353.out) | exact HB.out)⟩
end Go.Proofs.Ytapbkoolddnjgaa.PA
