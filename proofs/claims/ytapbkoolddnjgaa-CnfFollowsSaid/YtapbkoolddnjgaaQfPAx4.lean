/- What the claim needs of PAx4: lemmas and contracts, cut by a program to what is used. -/
import Derived.Test.YtapbkoolddnjgaaQfPAx0
import Derived.Test.YtapbkoolddnjgaaQfPAx1
import Derived.Test.YtapbkoolddnjgaaQfPAx3
namespace Go.Proofs.Ytapbkoolddnjgaa.PA
open Go.RowKit Go.Proofs.YtapbkoolddnjgaaW.PrintWords Go.Proofs.YtapbkoolddnjgaaW.PrintLast Go.Proofs.YtapbkoolddnjgaaW.PrintMore Go.Proofs.Sl
attribute [local go_sem] max2_int min2_int max_two min_two max_three min_three max_four min_four
set_option linter.unusedVariables false
set_option linter.unusedSimpArgs false
def cnf_values_of.f (l0 : List Int) (a1 : Int) : Option (Int) := if a1 < 0 then (if 0 ≤ (wrap64 (-a1)) then (if (wrap64 (-a1)) < (l0.length : Int) then (some (IntKind.i8.wrap (-(rd l0 (wrap64 (-a1)))))) else (none)) else (none)) else (if 0 ≤ a1 then (if a1 < (l0.length : Int) then (some (rd l0 a1)) else (none)) else (none))
set_option maxHeartbeats 8000000 in
set_option maxRecDepth 100000 in
theorem cnf_values_of.calls (A0 : Option Addr) (c0 : Nat) (l0 : List Int) (a1 : Int) (r : Int) (w : World) (hr0 : Kd.C (Kd.int .i8) w A0 l0.length l0) (hc0 : l0.length ≤ c0) (h : cnf_values_of.f l0 a1 = some r) :
    Calls Try.prog 85 #[.slice A0 l0.length c0, .int .i64 a1] w fun e w' => e = .returned (.int .i8 r) ∧ Drawn0 w w' := by
  have HR0 := Ak hr0
  have HC0 := Ak hc0
  clear hr0 hc0
  have H : (if a1 < 0 then (if 0 ≤ (wrap64 (-a1)) then (if (wrap64 (-a1)) < (l0.length : Int) then (some (IntKind.i8.wrap (-(rd l0 (wrap64 (-a1)))))) else (none)) else (none)) else (if 0 ≤ a1 then (if a1 < (l0.length : Int) then (some (rd l0 a1)) else (none)) else (none))) = some r := h
  clear h
  by_cases c3 : a1 < 0
  · rw [if_pos c3] at H
    have c3b0 : decide (a1 < 0) = true := decide_eq_true c3
    clear c3
    obtain ⟨ji4, hji4⟩ : ∃ j_ : Int, (wrap64 (-a1)) = j_ := ⟨_, rfl⟩
    replace H : (if 0 ≤ (ji4) then (if (ji4) < (l0.length : Int) then (some (IntKind.i8.wrap (-(rd l0 (ji4))))) else (none)) else (none)) = some r := by first | (rw [hji4] at H; exact H) | (simp only [hji4] at H ⊢; exact H)
    have hji4w : (IntKind.i64.wrap (-a1)) = ji4 := (i64_w _).trans hji4
    by_cases c5 : 0 ≤ (ji4)
    · rw [if_pos c5] at H
      have c5b0 : decide (0 ≤ (ji4)) = true := decide_eq_true c5
      clear c5
      by_cases c6 : (ji4) < (l0.length : Int)
      · rw [if_pos c6] at H
        have c6b0 : decide ((ji4) < (l0.length : Int)) = true := decide_eq_true c6
        clear c6
        obtain rfl := Option.some.inj H
        have p109 : 0 ≤ ((ji4) : Int) := of_decide_eq_true (by first | (with_reducible assumption) | assumption)
        have q109 : (ji4) < (l0.length : Int) := of_decide_eq_true (by first | (with_reducible assumption) | assumption)
        obtain ⟨ad109, e109, hx109_0⟩ := Kd.at_int HR0.out (ji4) p109 q109
        cases e109
        replace p109 := eq_true p109
        replace q109 := eq_true q109
        go_enter Try.func85, Try.ntmps85
        go_wp2
        go_ret
        exact ⟨by first | rfl | (simp; done) | (simp only [← hji4] <;> (first | rfl | simp)) | (simp [*]; done), by repeat (first | exact Drawn0.refl _ | apply Drawn0.step)⟩
      · rw [if_neg c6] at H
        exact absurd H (by simp)
    · rw [if_neg c5] at H
      exact absurd H (by simp)
  · rw [if_neg c3] at H
    have c3b0 : decide (a1 < 0) = false := decide_eq_false c3
    clear c3
    by_cases c7 : 0 ≤ a1
    · rw [if_pos c7] at H
      have c7b0 : decide (0 ≤ a1) = true := decide_eq_true c7
      clear c7
      by_cases c8 : a1 < (l0.length : Int)
      · rw [if_pos c8] at H
        have c8b0 : decide (a1 < (l0.length : Int)) = true := decide_eq_true c8
        clear c8
        obtain rfl := Option.some.inj H
        have p110 : 0 ≤ (a1 : Int) := of_decide_eq_true (by first | (with_reducible assumption) | assumption)
        have q110 : a1 < (l0.length : Int) := of_decide_eq_true (by first | (with_reducible assumption) | assumption)
        obtain ⟨ad110, e110, hx110_0⟩ := Kd.at_int HR0.out a1 p110 q110
        cases e110
        replace p110 := eq_true p110
        replace q110 := eq_true q110
        go_enter Try.func85, Try.ntmps85
        go_wp2
        go_ret
        exact ⟨by first | rfl | (simp; done) | (simp [*]; done), by repeat (first | exact Drawn0.refl _ | apply Drawn0.step)⟩
      · rw [if_neg c8] at H
        exact absurd H (by simp)
    · rw [if_neg c7] at H
      exact absurd H (by simp)
def cnf_values_open.l0 : Nat → List Int → List Int → List Int → Int → Int → Option (List Int × Bool)
  | 0, _, _, _, _, _ => none
  | k + 1, x0, x4, x8, x9, x10 => if x10 < x9 then (if 0 ≤ x10 then (if x10 < (x8.length : Int) then ((cnf_values_of.f x0 (rd x8 x10)).bind fun t112 => (if t112 = 1 then (some (([] : List Int), true)) else (if t112 = 0 then (if x4.length < 17592186044416 then ((some (x4 ++ [rd x8 x10] : List Int)).bind fun y113 => (if (y113.length : Int) > 1 then (some (y113, false)) else (cnf_values_open.l0 k x0 y113 x8 x9 (wrap64 (x10 + 1))))) else (none)) else (if (x4.length : Int) > 1 then (some (x4, false)) else (cnf_values_open.l0 k x0 x4 x8 x9 (wrap64 (x10 + 1))))))) else (none)) else (none)) else (some (x4, false))
def cnf_values_open.f (k : Nat) (l0 : List Int) (l1 : List Int) : Option (List Int × Bool) := cnf_values_open.l0 k l0 ([] : List Int) l1 (l1.length : Int) 0
set_option maxHeartbeats 8000000 in
set_option maxRecDepth 100000 in
theorem cnf_values_open.calls (k : Nat) (A0 : Option Addr) (c0 : Nat) (l0 : List Int) (A1 : Option Addr) (c1 : Nat) (l1 : List Int) (r1 : List Int) (r2 : Bool) (w : World) (hr0 : Kd.C (Kd.int .i8) w A0 l0.length l0) (hc0 : l0.length ≤ c0) (hr1 : Kd.C (Kd.int .i64) w A1 l1.length l1) (hc1 : l1.length ≤ c1) (h : cnf_values_open.f k l0 l1 = some (r1, r2)) :
    Calls Try.prog 63 #[.slice A0 l0.length c0, .slice A1 l1.length c1] w fun e w' => ∃ v0_ : Value, e = .returned (.tuple #[v0_, .bool r2]) ∧ Kd.R (Kd.int .i64) 3 w' w.heap.size (fun _ => True) v0_ r1 ∧ Below w.heap.size w w' := by
  have HR0 := Ak hr0
  have HC0 := Ak hc0
  clear hr0 hc0
  have HR1 := Ak hr1
  have HC1 := Ak hc1
  clear hr1 hc1
  have HB := Ak (Below.refl w.heap.size w)
  have H : (cnf_values_open.l0 k l0 ([] : List Int) l1 (l1.length : Int) 0) = some (r1, r2) := h
  clear h
  have H' := Ak H
  clear H
  go_enter Try.func63, Try.ntmps63
  go_wp2
  go_loopg [4, 10] k (fun kq v4 v10 w' => ∃ (x4_1 : List Int) (x10_1 : Int), v10 = .int .i64 x10_1 ∧ Aside0 (cnf_values_open.l0 kq l0 x4_1 l1 (l1.length : Int) x10_1 = some (r1, r2)) ∧ Aside0 (kq ≤ k) ∧ Aside0 (Kd.R (Kd.int .i64) 3 w' w.heap.size (fun _ => True) v4 x4_1) ∧ Aside0 (Below w.heap.size w w'))
  case atStart => exact ⟨(([] : List Int)), (0), (by first | rfl | (simp; done) | (simp [*]; done)), H', ⟨Nat.le_refl _⟩, ⟨by first | exact Kd.R_nil _ _ _ _ _ | exact Kd.N_nil _ _ _ _ _ | exact Kd.V_nil _ _ _ _ _ | exact Kd.Q_nil _ _ _ _ _ | exact Kd.S_nil _ _ _ _ _⟩, ⟨by repeat (first | (with_reducible first | exact HB.out | apply below_alloc | apply pw_below_drewN | apply below_drew1) | exact HB.out)⟩⟩
  case round =>
    clear H'
    try clear c1
    try clear p2
    obtain ⟨x4_1, x10_1, rfl, HA, HK1, HO_4, HB⟩ := hrel
    cases gk with
    | zero => exact absurd HA.out (by simp [cnf_values_open.l0])
    | succ k1 =>
      have H := HA.out
      clear HA
      simp only [cnf_values_open.l0] at H
      by_cases c3 : x10_1 < (l1.length : Int)
      · rw [if_pos c3] at H
        have c3b0 : decide (x10_1 < (l1.length : Int)) = true := decide_eq_true c3
        clear c3
        by_cases c4 : 0 ≤ x10_1
        · rw [if_pos c4] at H
          have c4b0 : decide (0 ≤ x10_1) = true := decide_eq_true c4
          clear c4
          by_cases c5 : x10_1 < (l1.length : Int)
          · rw [if_pos c5] at H
            have c5b0 : decide (x10_1 < (l1.length : Int)) = true := decide_eq_true c5
            clear c5
            replace H := Option.bind_eq_some_iff.mp H
            obtain ⟨t112, A60, H⟩ := H
            replace H : (if t112 = 1 then (some (([] : List Int), true)) else (if t112 = 0 then (if x4_1.length < 17592186044416 then ((some (x4_1 ++ [rd l1 x10_1] : List Int)).bind fun y113 => (if (y113.length : Int) > 1 then (some (y113, false)) else (cnf_values_open.l0 k1 l0 y113 l1 (l1.length : Int) (wrap64 (x10_1 + 1))))) else (none)) else (if (x4_1.length : Int) > 1 then (some (x4_1, false)) else (cnf_values_open.l0 k1 l0 x4_1 l1 (l1.length : Int) (wrap64 (x10_1 + 1)))))) = some (r1, r2) := H
            have A6 := Ak A60
            clear A60
            by_cases c7 : t112 = 1
            · rw [if_pos c7] at H
              have c7b0 : (t112 == 1) = true := beq_iff_eq.mpr c7
              have c7b1 : (t112 != 1) = false := bne_eq_false_iff_eq.mpr c7
              clear c7
              simp only [Option.some.injEq, Prod.mk.injEq] at H
              obtain ⟨rfl, rfl⟩ := H
              have p111 : 0 ≤ (x10_1 : Int) := of_decide_eq_true (by first | (with_reducible assumption) | assumption)
              have q111 : x10_1 < (l1.length : Int) := of_decide_eq_true (by first | (with_reducible assumption) | assumption)
              obtain ⟨ad111, e111, hx111_0⟩ := Kd.at_int HR1.out x10_1 p111 q111
              cases e111
              replace hx111_0 := (HB.out.cell (World.block_lt_of_cell? w _ hx111_0)).trans hx111_0
              replace p111 := eq_true p111
              replace q111 := eq_true q111
              go_wp2_with (first | ((with_reducible refine gate_callee (f := 85) rfl ?_); refine goesL_ (some 16) rfl rfl Try.func85 (by kernel_rfl) rfl #[.slice A0 l0.length c0, .int .i64 (rd l1 x10_1)] rfl (by (try simp only [List.map_toArray, List.map_cons, List.map_nil]); first | done | rfl | (simp only [List.length_drop, List.length_take]; rfl)) ?_; (with_reducible refine (cnf_values_of.calls _ _ l0 (rd l1 x10_1) t112 _ ?side1 ?side2 A6.out).mono ?_); (case side1 => repeat (first | exact (Kd.C_below HR0.out HB.out) | (with_reducible refine Kd.C_alloc ?_ _) | (with_reducible refine Kd.C_drewN ?_ _) | (with_reducible refine Kd.C_drew ?_))); (case side2 => exact HC0.out); rintro e w' ⟨rfl, ⟨nd, rfl⟩⟩; refine ⟨_, rfl, ?_⟩))
              go_ret2
              exact ⟨_, by first | rfl | (simp [errW_none, errW_some] <;> rfl) | (simp [*, errW_none, errW_some] <;> rfl), by first | exact Kd.R_nil _ _ _ _ _ | exact Kd.N_nil _ _ _ _ _ | exact Kd.V_nil _ _ _ _ _ | exact Kd.Q_nil _ _ _ _ _ | exact Kd.S_nil _ _ _ _ _, by repeat (first | (with_reducible first | exact HB.out | apply below_alloc | apply pw_below_drewN | apply below_drew1) | exact HB.out)⟩
            · rw [if_neg c7] at H
              have c7b0 : (t112 == 1) = false := beq_eq_false_iff_ne.mpr c7
              have c7b1 : (t112 != 1) = true := bne_iff_ne.mpr c7
              by_cases c8 : t112 = 0
              · rw [if_pos c8] at H
                have c8b0 : (t112 == 0) = true := beq_iff_eq.mpr c8
                have c8b1 : (t112 != 0) = false := bne_eq_false_iff_eq.mpr c8
                clear c8
                by_cases c9 : x4_1.length < 17592186044416
                · rw [if_pos c9] at H
                  have LMc9 := Ak c9
                  clear c9
                  obtain ⟨y113, hy113⟩ : ∃ y_ : List Int, y_ = (x4_1 ++ [rd l1 x10_1]) := ⟨_, rfl⟩
                  replace H : (if (y113.length : Int) > 1 then (some (y113, false)) else (cnf_values_open.l0 k1 l0 y113 l1 (l1.length : Int) (wrap64 (x10_1 + 1)))) = some (r1, r2) := by first | (rw [hy113]; with_reducible exact H) | (have H2_ := (Option.bind_some _ _).symm.trans H; rw [hy113]; with_reducible exact H2_) | (have H2_ := (Option.bind_some _ _).symm.trans H; with_reducible exact H2_) | with_reducible exact H | (rw [hy113]; exact H) | exact H
                  have Ny113 := Ak hy113
                  clear hy113
                  by_cases c10 : (y113.length : Int) > 1
                  · rw [if_pos c10] at H
                    have c10b0 : decide (1 < (y113.length : Int)) = true := decide_eq_true c10
                    have c10b1 : decide (1 < y113.length) = true := decide_eq_true (by omega)
                    clear c10
                    simp only [Option.some.injEq, Prod.mk.injEq] at H
                    obtain ⟨rfl, rfl⟩ := H
                    have p111 : 0 ≤ (x10_1 : Int) := of_decide_eq_true (by first | (with_reducible assumption) | assumption)
                    have q111 : x10_1 < (l1.length : Int) := of_decide_eq_true (by first | (with_reducible assumption) | assumption)
                    obtain ⟨ad111, e111, hx111_0⟩ := Kd.at_int HR1.out x10_1 p111 q111
                    cases e111
                    replace hx111_0 := (HB.out.cell (World.block_lt_of_cell? w _ hx111_0)).trans hx111_0
                    replace p111 := eq_true p111
                    replace q111 := eq_true q111
                    go_wp2_with (first | ((with_reducible refine gate_callee (f := 85) rfl ?_); refine goesL_ (some 16) rfl rfl Try.func85 (by kernel_rfl) rfl #[.slice A0 l0.length c0, .int .i64 (rd l1 x10_1)] rfl (by (try simp only [List.map_toArray, List.map_cons, List.map_nil]); first | done | rfl | (simp only [List.length_drop, List.length_take]; rfl)) ?_; (with_reducible refine (cnf_values_of.calls _ _ l0 (rd l1 x10_1) t112 _ ?side1 ?side2 A6.out).mono ?_); (case side1 => repeat (first | exact (Kd.C_below HR0.out HB.out) | (with_reducible refine Kd.C_alloc ?_ _) | (with_reducible refine Kd.C_drewN ?_ _) | (with_reducible refine Kd.C_drew ?_))); (case side2 => exact HC0.out); rintro e w' ⟨rfl, ⟨nd, rfl⟩⟩; refine ⟨_, rfl, ?_⟩) | ((with_reducible refine gate_builtin (b := .append) (xs := #[.tmp 21, .tmp 23]) rfl ?_); at_builtin; refine Kd.R_append (Kd.int .i64) (w0 := w) w.heap.size rfl (.tmp 21) (.tmp 23) 25 3 (.int .i64 0) 8 rfl Try.underlying25 info3 rfl (by decide) (by omega) u4 x4_1 (rd l1 x10_1) [.int .i64 (rd l1 x10_1)] (fun _ => True) (fun _ => False) rfl rfl ?aP (fun _ hk => hk.elim) ?aF ?aO ?aB ?aS ?aL ?_; (case aP => exact rfl); (case aB => exact (by repeat (first | (with_reducible first | exact HB.out | apply below_alloc | apply pw_below_drewN | apply below_drew1) | exact HB.out))); (case aF => exact (fun _ _ => trivial)); (case aO => exact (by (with_reducible repeat (first | apply Kd.R_alloc | apply Kd.R_drewN | apply Kd.R_drew)); exact HO_4.out)); (case aS => exact (below_size (by repeat (first | (with_reducible first | exact HB.out | apply below_alloc | apply pw_below_drewN | apply below_drew1) | exact HB.out)))); (case aL => have := LMc9.out; omega); intro v114 w11 ho hb hg hat; rw [← Ny113.out] at ho; have n0_ := Ak (hb); have n1_ := Ak (ho); clear HB; clear HO_4; have HB := n0_; have HO115 := n1_; clear n0_ n1_; clear ho hb hg hat; obtain ⟨Ao12, co12, eo12⟩ := Kd.R_slice HO115.out; subst eo12))
                    go_ret2
                    exact ⟨_, by first | rfl | (simp [errW_none, errW_some] <;> rfl) | (simp [*, errW_none, errW_some] <;> rfl), by (with_reducible repeat (first | apply Kd.R_alloc | apply Kd.R_drewN | apply Kd.R_drew)); exact HO115.out, by repeat (first | (with_reducible first | exact HB.out | apply below_alloc | apply pw_below_drewN | apply below_drew1) | exact HB.out)⟩
                  · rw [if_neg c10] at H
                    have c10b0 : decide (1 < (y113.length : Int)) = false := decide_eq_false c10
                    have c10b1 : decide (1 < y113.length) = false := decide_eq_false (by omega)
                    clear c10
                    have H' := Ak H
                    clear H
                    have p111 : 0 ≤ (x10_1 : Int) := of_decide_eq_true (by first | (with_reducible assumption) | assumption)
                    have q111 : x10_1 < (l1.length : Int) := of_decide_eq_true (by first | (with_reducible assumption) | assumption)
                    obtain ⟨ad111, e111, hx111_0⟩ := Kd.at_int HR1.out x10_1 p111 q111
                    cases e111
                    replace hx111_0 := (HB.out.cell (World.block_lt_of_cell? w _ hx111_0)).trans hx111_0
                    replace p111 := eq_true p111
                    replace q111 := eq_true q111
                    go_wp2_with (first | ((with_reducible refine gate_callee (f := 85) rfl ?_); refine goesL_ (some 16) rfl rfl Try.func85 (by kernel_rfl) rfl #[.slice A0 l0.length c0, .int .i64 (rd l1 x10_1)] rfl (by (try simp only [List.map_toArray, List.map_cons, List.map_nil]); first | done | rfl | (simp only [List.length_drop, List.length_take]; rfl)) ?_; (with_reducible refine (cnf_values_of.calls _ _ l0 (rd l1 x10_1) t112 _ ?side1 ?side2 A6.out).mono ?_); (case side1 => repeat (first | exact (Kd.C_below HR0.out HB.out) | (with_reducible refine Kd.C_alloc ?_ _) | (with_reducible refine Kd.C_drewN ?_ _) | (with_reducible refine Kd.C_drew ?_))); (case side2 => exact HC0.out); rintro e w' ⟨rfl, ⟨nd, rfl⟩⟩; refine ⟨_, rfl, ?_⟩) | ((with_reducible refine gate_builtin (b := .append) (xs := #[.tmp 21, .tmp 23]) rfl ?_); at_builtin; refine Kd.R_append (Kd.int .i64) (w0 := w) w.heap.size rfl (.tmp 21) (.tmp 23) 25 3 (.int .i64 0) 8 rfl Try.underlying25 info3 rfl (by decide) (by omega) u4 x4_1 (rd l1 x10_1) [.int .i64 (rd l1 x10_1)] (fun _ => True) (fun _ => False) rfl rfl ?aP (fun _ hk => hk.elim) ?aF ?aO ?aB ?aS ?aL ?_; (case aP => exact rfl); (case aB => exact (by repeat (first | (with_reducible first | exact HB.out | apply below_alloc | apply pw_below_drewN | apply below_drew1) | exact HB.out))); (case aF => exact (fun _ _ => trivial)); (case aO => exact (by (with_reducible repeat (first | apply Kd.R_alloc | apply Kd.R_drewN | apply Kd.R_drew)); exact HO_4.out)); (case aS => exact (below_size (by repeat (first | (with_reducible first | exact HB.out | apply below_alloc | apply pw_below_drewN | apply below_drew1) | exact HB.out)))); (case aL => have := LMc9.out; omega); intro v114 w13 ho hb hg hat; rw [← Ny113.out] at ho; have n0_ := Ak (hb); have n1_ := Ak (ho); clear HB; clear HO_4; have HB := n0_; have HO115 := n1_; clear n0_ n1_; clear ho hb hg hat; obtain ⟨Ao14, co14, eo14⟩ := Kd.R_slice HO115.out; subst eo14))
                    go_roundg k1
                    case measure => have := HK1.out; omega
                    case rel => exact ⟨(y113), (wrap64 (x10_1 + 1)), (by first | rfl | (simp; done) | (simp [*]; done)), H', ⟨by have := HK1.out; omega⟩, ⟨by (with_reducible repeat (first | apply Kd.R_alloc | apply Kd.R_drewN | apply Kd.R_drew)); exact HO115.out⟩, ⟨by repeat (first | (with_reducible first | exact HB.out | apply below_alloc | apply pw_below_drewN | apply below_drew1) | exact HB.out)⟩⟩
                · rw [if_neg c9] at H
                  exact absurd H (by simp)
              · rw [if_neg c8] at H
                have c8b0 : (t112 == 0) = false := beq_eq_false_iff_ne.mpr c8
                have c8b1 : (t112 != 0) = true := bne_iff_ne.mpr c8
                by_cases c15 : (x4_1.length : Int) > 1
                · rw [if_pos c15] at H
                  have c15b0 : decide (1 < (x4_1.length : Int)) = true := decide_eq_true c15
                  have c15b1 : decide (1 < x4_1.length) = true := decide_eq_true (by omega)
                  clear c15
                  simp only [Option.some.injEq, Prod.mk.injEq] at H
                  obtain ⟨rfl, rfl⟩ := H
                  have p111 : 0 ≤ (x10_1 : Int) := of_decide_eq_true (by first | (with_reducible assumption) | assumption)
                  have q111 : x10_1 < (l1.length : Int) := of_decide_eq_true (by first | (with_reducible assumption) | assumption)
                  obtain ⟨ad111, e111, hx111_0⟩ := Kd.at_int HR1.out x10_1 p111 q111
                  cases e111
                  replace hx111_0 := (HB.out.cell (World.block_lt_of_cell? w _ hx111_0)).trans hx111_0
                  replace p111 := eq_true p111
                  replace q111 := eq_true q111
                  go_wp2_with (first | ((with_reducible refine gate_callee (f := 85) rfl ?_); refine goesL_ (some 16) rfl rfl Try.func85 (by kernel_rfl) rfl #[.slice A0 l0.length c0, .int .i64 (rd l1 x10_1)] rfl (by (try simp only [List.map_toArray, List.map_cons, List.map_nil]); first | done | rfl | (simp only [List.length_drop, List.length_take]; rfl)) ?_; (with_reducible refine (cnf_values_of.calls _ _ l0 (rd l1 x10_1) t112 _ ?side1 ?side2 A6.out).mono ?_); (case side1 => repeat (first | exact (Kd.C_below HR0.out HB.out) | (with_reducible refine Kd.C_alloc ?_ _) | (with_reducible refine Kd.C_drewN ?_ _) | (with_reducible refine Kd.C_drew ?_))); (case side2 => exact HC0.out); rintro e w' ⟨rfl, ⟨nd, rfl⟩⟩; refine ⟨_, rfl, ?_⟩; obtain ⟨Ao16, co16, eo16⟩ := Kd.R_slice HO_4.out; subst eo16))
                  go_ret2
                  exact ⟨_, by first | rfl | (simp [errW_none, errW_some] <;> rfl) | (simp [*, errW_none, errW_some] <;> rfl), by (with_reducible repeat (first | apply Kd.R_alloc | apply Kd.R_drewN | apply Kd.R_drew)); exact HO_4.out, by repeat (first | (with_reducible first | exact HB.out | apply below_alloc | apply pw_below_drewN | apply below_drew1) | exact HB.out)⟩
                · rw [if_neg c15] at H
                  have c15b0 : decide (1 < (x4_1.length : Int)) = false := decide_eq_false c15
                  have c15b1 : decide (1 < x4_1.length) = false := decide_eq_false (by omega)
                  clear c15
                  have H' := Ak H
                  clear H
                  have p111 : 0 ≤ (x10_1 : Int) := of_decide_eq_true (by first | (with_reducible assumption) | assumption)
                  have q111 : x10_1 < (l1.length : Int) := of_decide_eq_true (by first | (with_reducible assumption) | assumption)
                  obtain ⟨ad111, e111, hx111_0⟩ := Kd.at_int HR1.out x10_1 p111 q111
                  cases e111
                  replace hx111_0 := (HB.out.cell (World.block_lt_of_cell? w _ hx111_0)).trans hx111_0
                  replace p111 := eq_true p111
                  replace q111 := eq_true q111
                  go_wp2_with (first | ((with_reducible refine gate_callee (f := 85) rfl ?_); refine goesL_ (some 16) rfl rfl Try.func85 (by kernel_rfl) rfl #[.slice A0 l0.length c0, .int .i64 (rd l1 x10_1)] rfl (by (try simp only [List.map_toArray, List.map_cons, List.map_nil]); first | done | rfl | (simp only [List.length_drop, List.length_take]; rfl)) ?_; (with_reducible refine (cnf_values_of.calls _ _ l0 (rd l1 x10_1) t112 _ ?side1 ?side2 A6.out).mono ?_); (case side1 => repeat (first | exact (Kd.C_below HR0.out HB.out) | (with_reducible refine Kd.C_alloc ?_ _) | (with_reducible refine Kd.C_drewN ?_ _) | (with_reducible refine Kd.C_drew ?_))); (case side2 => exact HC0.out); rintro e w' ⟨rfl, ⟨nd, rfl⟩⟩; refine ⟨_, rfl, ?_⟩; obtain ⟨Ao17, co17, eo17⟩ := Kd.R_slice HO_4.out; subst eo17))
                  go_roundg k1
                  case measure => have := HK1.out; omega
                  case rel => exact ⟨(x4_1), (wrap64 (x10_1 + 1)), (by first | rfl | (simp; done) | (simp [*]; done)), H', ⟨by have := HK1.out; omega⟩, ⟨by (with_reducible repeat (first | apply Kd.R_alloc | apply Kd.R_drewN | apply Kd.R_drew)); exact HO_4.out⟩, ⟨by repeat (first | (with_reducible first | exact HB.out | apply below_alloc | apply pw_below_drewN | apply below_drew1) | exact HB.out)⟩⟩
          · rw [if_neg c5] at H
            exact absurd H (by simp)
        · rw [if_neg c4] at H
          exact absurd H (by simp)
      · rw [if_neg c3] at H
        have c3b0 : decide (x10_1 < (l1.length : Int)) = false := decide_eq_false c3
        clear c3
        simp only [Option.some.injEq, Prod.mk.injEq] at H
        obtain ⟨rfl, rfl⟩ := H
        go_wp2
        go_ret2
        exact ⟨_, by first | rfl | (simp [errW_none, errW_some] <;> rfl) | (simp [*, errW_none, errW_some] <;> rfl), by (with_reducible repeat (first | apply Kd.R_alloc | apply Kd.R_drewN | apply Kd.R_drew)); exact HO_4.out, by repeat (first | (with_reducible first | exact HB.out | apply below_alloc | apply pw_below_drewN | apply below_drew1) | exact HB.out)⟩
def cnf_values_set.f (l0 : List Int) (a1 : Int) : Option (List Int) := (cnf_variable.f a1).bind fun t116 => (if 0 ≤ t116 then (if t116 < (l0.length : Int) then ((some (l0.set (t116 : Int).toNat 1 : List Int)).bind fun y117 => (if a1 < 0 then (if 0 ≤ (wrap64 (-a1)) then (if (wrap64 (-a1)) < (l0.length : Int) then (some (y117.set ((wrap64 (-a1)) : Int).toNat (-1))) else (none)) else (none)) else (some y117))) else (none)) else (none))
set_option maxHeartbeats 8000000 in
set_option maxRecDepth 100000 in
theorem cnf_values_set.calls (P0_ : Nat → Prop) (u9000_ : Value) (l0 : List Int) (a1 : Int) (r : List Int) (w0 w : World) (hB : Below w0.heap.size w0 w) (ho0 : Kd.R (Kd.int .i8) 96 w w0.heap.size P0_ u9000_ l0) (h : cnf_values_set.f l0 a1 = some r) :
    Calls Try.prog 62 #[u9000_, .int .i64 a1] w fun e w' => e = .returned (.tuple #[]) ∧ Kd.R (Kd.int .i8) 96 w' w0.heap.size (fun k_ => (P0_ k_ ∨ w.heap.size ≤ k_)) u9000_ r ∧ Below w0.heap.size w0 w' ∧ Kept w w' (fun k_ => P0_ k_) := by
  have HO0 := Ak (show Kd.R (Kd.int .i8) 96 w w0.heap.size (fun k_ => (P0_ k_ ∨ w.heap.size ≤ k_)) u9000_ l0 from Kd.R_mono ho0 (fun k_ hk => (.inl hk)))
  have HK := Ak (Kept.refl w (fun k_ => P0_ k_))
  have HW0 := Ak hB.size
  have HB := Ak hB
  clear hB
  have H : ((cnf_variable.f a1).bind fun t116 => (if 0 ≤ t116 then (if t116 < (l0.length : Int) then ((some (l0.set (t116 : Int).toNat 1 : List Int)).bind fun y117 => (if a1 < 0 then (if 0 ≤ (wrap64 (-a1)) then (if (wrap64 (-a1)) < (l0.length : Int) then (some (y117.set ((wrap64 (-a1)) : Int).toNat (-1))) else (none)) else (none)) else (some y117))) else (none)) else (none))) = some r := h
  clear h
  replace H := Option.bind_eq_some_iff.mp H
  obtain ⟨t116, A30, H⟩ := H
  replace H : (if 0 ≤ t116 then (if t116 < (l0.length : Int) then ((some (l0.set (t116 : Int).toNat 1 : List Int)).bind fun y117 => (if a1 < 0 then (if 0 ≤ (wrap64 (-a1)) then (if (wrap64 (-a1)) < (l0.length : Int) then (some (y117.set ((wrap64 (-a1)) : Int).toNat (-1))) else (none)) else (none)) else (some y117))) else (none)) else (none)) = some r := H
  have A3 := Ak A30
  clear A30
  by_cases c4 : 0 ≤ t116
  · rw [if_pos c4] at H
    have c4b0 : decide (0 ≤ t116) = true := decide_eq_true c4
    clear c4
    by_cases c5 : t116 < (l0.length : Int)
    · rw [if_pos c5] at H
      have c5b0 : decide (t116 < (l0.length : Int)) = true := decide_eq_true c5
      clear c5
      obtain ⟨y117, hy117⟩ : ∃ y_ : List Int, y_ = (l0.set (t116 : Int).toNat 1) := ⟨_, rfl⟩
      replace H : (if a1 < 0 then (if 0 ≤ (wrap64 (-a1)) then (if (wrap64 (-a1)) < (l0.length : Int) then (some (y117.set ((wrap64 (-a1)) : Int).toNat (-1))) else (none)) else (none)) else (some y117)) = some r := by first | (rw [hy117]; with_reducible exact H) | (have H2_ := (Option.bind_some _ _).symm.trans H; rw [hy117]; with_reducible exact H2_) | (have H2_ := (Option.bind_some _ _).symm.trans H; with_reducible exact H2_) | with_reducible exact H | (rw [hy117]; exact H) | exact H
      have Ny117 := Ak hy117
      clear hy117
      by_cases c7 : a1 < 0
      · rw [if_pos c7] at H
        have c7b0 : decide (a1 < 0) = true := decide_eq_true c7
        clear c7
        obtain ⟨ji8, hji8⟩ : ∃ j_ : Int, (wrap64 (-a1)) = j_ := ⟨_, rfl⟩
        replace H : (if 0 ≤ (ji8) then (if (ji8) < (l0.length : Int) then (some (y117.set ((ji8) : Int).toNat (-1))) else (none)) else (none)) = some r := by first | (rw [hji8] at H; exact H) | (simp only [hji8] at H ⊢; exact H)
        (try rw [hji8] at A3)
        have hji8w : (IntKind.i64.wrap (-a1)) = ji8 := (i64_w _).trans hji8
        by_cases c9 : 0 ≤ (ji8)
        · rw [if_pos c9] at H
          have c9b0 : decide (0 ≤ (ji8)) = true := decide_eq_true c9
          clear c9
          by_cases c10 : (ji8) < (l0.length : Int)
          · rw [if_pos c10] at H
            have c10b0 : decide ((ji8) < (l0.length : Int)) = true := decide_eq_true c10
            clear c10
            obtain ⟨y118, hy118⟩ : ∃ y_ : List Int, y_ = (y117.set ((ji8) : Int).toNat (-1)) := ⟨_, rfl⟩
            replace H : (some y118) = some r := by first | (rw [hy118]; with_reducible exact H) | (have H2_ := (Option.bind_some _ _).symm.trans H; rw [hy118]; with_reducible exact H2_) | (have H2_ := (Option.bind_some _ _).symm.trans H; with_reducible exact H2_) | with_reducible exact H | (rw [hy118]; exact H) | exact H
            have Ny118 := Ak hy118
            clear hy118
            obtain rfl := Option.some.inj H
            go_enter Try.func62, Try.ntmps62
            go_wp2_with (first | ((with_reducible refine gate_callee (f := 47) rfl ?_); refine goesL_ (some 6) rfl rfl Try.func47 (by kernel_rfl) rfl #[.int .i64 a1] rfl (by (try simp only [List.map_toArray, List.map_cons, List.map_nil]); first | done | rfl | (simp only [List.length_drop, List.length_take]; rfl)) ?_; (with_reducible refine (cnf_variable.calls a1 t116 _ A3.out).mono ?_); rintro e w12 ⟨rfl, hb⟩; refine ⟨_, rfl, ?_⟩; have n0_ := Ak (Kd.R_below (by (with_reducible repeat (first | apply Kd.R_alloc | apply Kd.R_drewN | apply Kd.R_drew)); exact HO0.out) hb); have n1_ := Ak (Kept.below (S := (fun k_ => P0_ k_)) (by repeat (first | (with_reducible first | exact HK.out | apply Kept.alloc | apply Kept.drewN | apply Kept.drew) | exact HK.out)) hb); have n2_ := Ak (below_step (by repeat (first | (with_reducible first | exact HB.out | apply below_alloc | apply pw_below_drewN | apply below_drew1) | exact HB.out)) hb); clear HO0; clear HK; clear HB; have HO0 := n0_; have HK := n1_; have HB := n2_; clear n0_ n1_ n2_; (try clear hb); (try clear hb2); (try clear hk); (try clear hi); have p6 : 0 ≤ (t116 : Int) := of_decide_eq_true (by first | (with_reducible assumption) | assumption); have q6 : (t116 : Int) < ((l0.length : Int) : Int) := of_decide_eq_true (by first | (with_reducible assumption) | assumption); obtain ⟨go6, co6, eo6, gb6, gl6, cl6, HG6⟩ := Kd.R_form HO0.out (by omega); (first | cases eo6 | (injection eo6 with ea_ en_ ec_; (first | subst ea_ | (injection ea_ with ea_; subst ea_)); subst ec_; clear en_)); have GB6 := Ak gb6; have GG6 := Ak HG6; clear gb6 gl6 HG6; have HMgo6 := Ak (show (P0_ go6 ∨ w.heap.size ≤ go6) from (HO0.out.1 _ rfl)); obtain ⟨hx6_0, hf6_0⟩ := Kd.R_celln 0 HO0.out (t116 : Int) p6 q6; replace p6 := eq_true p6; replace q6 := eq_true q6; obtain ⟨hy13_, hz13_⟩ := Kd.R_celln 0 HO0.out (t116 : Int) (of_decide_eq_true (by first | (with_reducible assumption) | assumption)) (of_decide_eq_true (by first | (with_reducible assumption) | assumption)); have HP13 := Kd.R_putg HO0.out (t116 : Int) 1) | ((with_reducible refine gate_store (t := 96) (p := 7) rfl ?_); refine store_event (t := 96) (p := 7) (v := ?vo_w14) (w1 := (w12.setCell ⟨go6, (t116 : Int).toNat, none⟩ (.int .i8 1))) ?hg ?ho ?hn ?hr ?_; (case ho => rfl); (case hg => rfl); (case hn => rfl); (case hr => first | (go_simp; done) | (go_simp; rfl)); intro w14 hw; have hg : w12.grownBy w14 (some go6) := (by rw [hw]; exact HP13.2); have hp_ : Kd.R (Kd.int .i8) 96 w14 w0.heap.size (fun k_ => (P0_ k_ ∨ w.heap.size ≤ k_)) (.slice (some ⟨go6, 0, none⟩) l0.length co6) y117 := (by rw [hw, Ny117.out]; exact HP13.1); clear HP13; have n0_ := Ak (hp_); have n1_ := Ak ((by rw [hw]; exact below_set (HB.out) GB6.out : Below w0.heap.size w0 w14)); have n2_ := Ak (Kept.of_grown (S := (fun k_ => P0_ k_)) hg (by repeat (first | (with_reducible first | exact HK.out | apply Kept.alloc | apply Kept.drewN | apply Kept.drew) | exact HK.out)) (fun k_ e_ => (HO0.out.1 k_ e_))); clear HO0; clear HB; clear HK; have HO0 := n0_; have HB := n1_; have HK := n2_; clear n0_ n1_ n2_; clear hg hw hp_; have p11 : 0 ≤ ((ji8) : Int) := of_decide_eq_true (by first | (with_reducible assumption) | assumption); have q11 : ((ji8) : Int) < ((l0.length : Int) : Int) := of_decide_eq_true (by first | (with_reducible assumption) | assumption); obtain ⟨hx11_0, hf11_0⟩ := Kd.R_celln 0 HO0.out ((ji8) : Int) p11 q11; replace p11 := eq_true p11; replace q11 := eq_true q11; obtain ⟨hy15_, hz15_⟩ := Kd.R_celln 0 HO0.out ((ji8) : Int) (of_decide_eq_true (by first | (with_reducible assumption) | assumption)) (of_decide_eq_true (by first | (with_reducible assumption) | assumption)); have HP15 := Kd.R_putg HO0.out ((ji8) : Int) (-1)) | ((with_reducible refine gate_store (t := 96) (p := 13) rfl ?_); refine store_event (t := 96) (p := 13) (v := ?vo_w16) (w1 := (w14.setCell ⟨go6, ((ji8) : Int).toNat, none⟩ (.int .i8 (-1)))) ?hg ?ho ?hn ?hr ?_; (case ho => rfl); (case hg => rfl); (case hn => rfl); (case hr => first | (go_simp; done) | (go_simp; rfl)); intro w16 hw; have hg : w14.grownBy w16 (some go6) := (by rw [hw]; exact HP15.2); have hp_ : Kd.R (Kd.int .i8) 96 w16 w0.heap.size (fun k_ => (P0_ k_ ∨ w.heap.size ≤ k_)) (.slice (some ⟨go6, 0, none⟩) l0.length co6) y118 := (by rw [hw, Ny118.out]; exact HP15.1); clear HP15; have n0_ := Ak (hp_); have n1_ := Ak ((by rw [hw]; exact below_set (HB.out) GB6.out : Below w0.heap.size w0 w16)); have n2_ := Ak (Kept.of_grown (S := (fun k_ => P0_ k_)) hg (by repeat (first | (with_reducible first | exact HK.out | apply Kept.alloc | apply Kept.drewN | apply Kept.drew) | exact HK.out)) (fun k_ e_ => (HO0.out.1 k_ e_))); clear HO0; clear HB; clear HK; have HO0 := n0_; have HB := n1_; have HK := n2_; clear n0_ n1_ n2_; clear hg hw hp_))
            first | go_end0 | ((try simp only [Exit.inBlock, Exit.then]); refine bodyPost_ret (results_none rfl _ _ _) rfl ?_)
            exact ⟨by first | rfl | (simp [errW_none, errW_some] <;> rfl) | (simp only [← hji8]; first | rfl | (simp [errW_none, errW_some] <;> rfl)) | (simp [*, errW_none, errW_some] <;> rfl), by (with_reducible repeat (first | apply Kd.R_alloc | apply Kd.R_drewN | apply Kd.R_drew)); exact HO0.out, by repeat (first | (with_reducible first | exact HB.out | apply below_alloc | apply pw_below_drewN | apply below_drew1) | exact HB.out), by repeat (first | (with_reducible first | exact HK.out | apply Kept.alloc | apply Kept.drewN | apply Kept.drew) | exact HK.out)⟩
          · rw [if_neg c10] at H
            exact absurd H (by simp)
        · rw [if_neg c9] at H
          exact absurd H (by simp)
      · rw [if_neg c7] at H
        have c7b0 : decide (a1 < 0) = false := decide_eq_false c7
        clear c7
        obtain rfl := Option.some.inj H
        go_enter Try.func62, Try.ntmps62
        go_wp2_with (first | ((with_reducible refine gate_callee (f := 47) rfl ?_); refine goesL_ (some 6) rfl rfl Try.func47 (by kernel_rfl) rfl #[.int .i64 a1] rfl (by (try simp only [List.map_toArray, List.map_cons, List.map_nil]); first | done | rfl | (simp only [List.length_drop, List.length_take]; rfl)) ?_; (with_reducible refine (cnf_variable.calls a1 t116 _ A3.out).mono ?_); rintro e w17 ⟨rfl, hb⟩; refine ⟨_, rfl, ?_⟩; have n0_ := Ak (Kd.R_below (by (with_reducible repeat (first | apply Kd.R_alloc | apply Kd.R_drewN | apply Kd.R_drew)); exact HO0.out) hb); have n1_ := Ak (Kept.below (S := (fun k_ => P0_ k_)) (by repeat (first | (with_reducible first | exact HK.out | apply Kept.alloc | apply Kept.drewN | apply Kept.drew) | exact HK.out)) hb); have n2_ := Ak (below_step (by repeat (first | (with_reducible first | exact HB.out | apply below_alloc | apply pw_below_drewN | apply below_drew1) | exact HB.out)) hb); clear HO0; clear HK; clear HB; have HO0 := n0_; have HK := n1_; have HB := n2_; clear n0_ n1_ n2_; (try clear hb); (try clear hb2); (try clear hk); (try clear hi); have p6 : 0 ≤ (t116 : Int) := of_decide_eq_true (by first | (with_reducible assumption) | assumption); have q6 : (t116 : Int) < ((l0.length : Int) : Int) := of_decide_eq_true (by first | (with_reducible assumption) | assumption); obtain ⟨go6, co6, eo6, gb6, gl6, cl6, HG6⟩ := Kd.R_form HO0.out (by omega); (first | cases eo6 | (injection eo6 with ea_ en_ ec_; (first | subst ea_ | (injection ea_ with ea_; subst ea_)); subst ec_; clear en_)); have GB6 := Ak gb6; have GG6 := Ak HG6; clear gb6 gl6 HG6; have HMgo6 := Ak (show (P0_ go6 ∨ w.heap.size ≤ go6) from (HO0.out.1 _ rfl)); obtain ⟨hx6_0, hf6_0⟩ := Kd.R_celln 0 HO0.out (t116 : Int) p6 q6; replace p6 := eq_true p6; replace q6 := eq_true q6; obtain ⟨hy18_, hz18_⟩ := Kd.R_celln 0 HO0.out (t116 : Int) (of_decide_eq_true (by first | (with_reducible assumption) | assumption)) (of_decide_eq_true (by first | (with_reducible assumption) | assumption)); have HP18 := Kd.R_putg HO0.out (t116 : Int) 1) | ((with_reducible refine gate_store (t := 96) (p := 7) rfl ?_); refine store_event (t := 96) (p := 7) (v := ?vo_w19) (w1 := (w17.setCell ⟨go6, (t116 : Int).toNat, none⟩ (.int .i8 1))) ?hg ?ho ?hn ?hr ?_; (case ho => rfl); (case hg => rfl); (case hn => rfl); (case hr => first | (go_simp; done) | (go_simp; rfl)); intro w19 hw; have hg : w17.grownBy w19 (some go6) := (by rw [hw]; exact HP18.2); have hp_ : Kd.R (Kd.int .i8) 96 w19 w0.heap.size (fun k_ => (P0_ k_ ∨ w.heap.size ≤ k_)) (.slice (some ⟨go6, 0, none⟩) l0.length co6) y117 := (by rw [hw, Ny117.out]; exact HP18.1); clear HP18; have n0_ := Ak (hp_); have n1_ := Ak ((by rw [hw]; exact below_set (HB.out) GB6.out : Below w0.heap.size w0 w19)); have n2_ := Ak (Kept.of_grown (S := (fun k_ => P0_ k_)) hg (by repeat (first | (with_reducible first | exact HK.out | apply Kept.alloc | apply Kept.drewN | apply Kept.drew) | exact HK.out)) (fun k_ e_ => (HO0.out.1 k_ e_))); clear HO0; clear HB; clear HK; have HO0 := n0_; have HB := n1_; have HK := n2_; clear n0_ n1_ n2_; clear hg hw hp_))
        first | go_end0 | ((try simp only [Exit.inBlock, Exit.then]); refine bodyPost_ret (results_none rfl _ _ _) rfl ?_)
        exact ⟨by first | rfl | (simp [errW_none, errW_some] <;> rfl) | (simp [*, errW_none, errW_some] <;> rfl), by (with_reducible repeat (first | apply Kd.R_alloc | apply Kd.R_drewN | apply Kd.R_drew)); exact HO0.out, by repeat (first | (with_reducible first | exact HB.out | apply below_alloc | apply pw_below_drewN | apply below_drew1) | exact HB.out), by repeat (first | (with_reducible first | exact HK.out | apply Kept.alloc | apply Kept.drewN | apply Kept.drew) | exact HK.out)⟩
    · rw [if_neg c5] at H
      exact absurd H (by simp)
  · rw [if_neg c4] at H
    exact absurd H (by simp)
theorem mx_abs {n : Int} (h : -1000 ≤ n ∧ n ≤ 1000) : mx n (wrap64 (-n)) = (n.natAbs : Int) := by
  rw [mx_neg h]; split <;> omega
theorem set_f {vals : List Int} {lit : Int} (h1 : -1000 ≤ lit ∧ lit ≤ 1000) (h2 : lit.natAbs < vals.length) : cnf_values_set.f vals lit = some (setLit vals lit) := by
  have hv : cnf_variable.f lit = some (lit.natAbs : Int) := by unfold cnf_variable.f; rw [mx_abs h1]
  have hw : wrap64 (-lit) = -lit := by unfold wrap64; omega
  unfold cnf_values_set.f setLit
  rw [hv, hw]
  simp only [Option.bind_some]
  rw [if_pos (by omega), if_pos (by omega)]
  by_cases hn : lit < 0
  · have he : -lit = (lit.natAbs : Int) := by omega
    rw [if_pos hn, if_pos hn, he, if_pos (by omega), if_pos (by omega)]
    simp
  · rw [if_neg hn, if_neg hn]
    simp
set_option maxHeartbeats 4000000 in
set_option maxRecDepth 100000 in
theorem assume77 (s : Sv) (lit reason : Int) (fx : Fx) (g : Nat) (w : World) (R : List Asn) (h : IsSv fx w g s R) (hl : s.knows lit) (ht : s.trail.length ≤ 100000) (hr : s.reasons.length ≤ 100000) :
    Calls Try.prog 77 #[.pointer (some ⟨g, 0, none⟩), .int .i64 lit, .int .i64 reason] w fun e w' => e = .returned (.tuple #[]) ∧ IsSv fx w' g (s.assume lit reason) R := by
  obtain ⟨vV, tV, rV, h⟩ := h
  obtain ⟨h0, h1, h2, h3⟩ := hl
  simp only [SvL, List.cons_append, List.nil_append] at h
  have hu82 := Try.underlying82
  have c3 := h.box_cell (i := 0) rfl 3
  simp only [List.getElem?_toArray, List.getElem?_cons_zero, List.getElem?_cons_succ] at c3
  have H := Ak h
  have HS := Ak (set_f ⟨h1, h2⟩ h3)
  have HT := Ak (show (s.trail.length + 1) * 8 ≤ 140737488355328 by omega)
  have HR := Ak (show (s.reasons.length + 1) * 8 ≤ 140737488355328 by omega)
  clear h h0 h1 h2 h3 ht hr
  go_enter Try.func77, Try.ntmps77
  go_wp2_with fail
  obtain ⟨F1, hF1, hput⟩ := H.out.row_kept (i := 2) rfl
  refine (cnf_values_set.calls F1 vV s.vals lit _ fx.w0 _ H.out.below hF1 HS.out).mono ?_
  rintro e w1 ⟨rfl, hR1, hb1, hk1⟩
  have H1 := Ak (hput w1 vV _ hR1 hb1 hk1)
  clear hR1 hb1 hk1 hput hF1 H c3
  simp only [List.set] at H1
  have c4 := H1.out.box_cell (i := 0) rfl 4
  simp only [List.getElem?_toArray, List.getElem?_cons_zero, List.getElem?_cons_succ] at c4
  go_upto_region 2 with (at_builtin; refine st_append_int (k := .i64) (e := 3) (xs := s.trail) (y := lit) H1.out (i := 3) rfl rfl (.tmp 16) (.tmp 18) 25 8 rfl Try.underlying25 info3 (by decide) rfl rfl HT.out ?_; intro v4 w4 hs4; simp only [List.set] at hs4; obtain ⟨A4, k4, rfl, _, _⟩ := hs4.row_reads (i := 3) rfl; have H4 := Ak hs4; clear hs4 H1 c4; have c4 := H4.out.box_cell (i := 0) rfl 4; have f4 := H4.out.box_free (i := 0) rfl 4; have c5 := H4.out.box_cell (i := 0) rfl 5; simp only [List.getElem?_toArray, List.getElem?_cons_zero, List.getElem?_cons_succ] at c4 c5)
  have hs5 := H4.out.box_set (i := 0) rfl 4 (.slice A4 (s.trail ++ [lit]).length k4)
  simp only [List.set, La, Lb, Lc, List.length_append, List.length_cons, List.length_nil, Nat.zero_add] at hs5
  have H5 := Ak hs5; clear hs5
  clear H4 c4 f4 c5
  generalize World.setCell w4 _ _ = w5 at H5 ⊢
  have c5 := H5.out.box_cell (i := 0) rfl 5
  simp only [List.getElem?_toArray, List.getElem?_cons_zero, List.getElem?_cons_succ] at c5
  go_wp2_with (at_builtin; refine st_append_int (k := .i64) (e := 3) (xs := s.reasons) (y := reason) H5.out (i := 4) rfl rfl (.tmp 26) (.tmp 28) 25 8 rfl Try.underlying25 info3 (by decide) rfl rfl HR.out ?_; intro v6 w6 hs6; simp only [List.set] at hs6; obtain ⟨A6, k6, rfl, _, _⟩ := hs6.row_reads (i := 4) rfl; have H6 := Ak hs6; clear hs6 H5 c5; have c6 := H6.out.box_cell (i := 0) rfl 5; have f6 := H6.out.box_free (i := 0) rfl 5; simp only [List.getElem?_toArray, List.getElem?_cons_zero, List.getElem?_cons_succ] at c6)
  have hs7 := H6.out.box_set (i := 0) rfl 5 (.slice A6 (s.reasons ++ [reason]).length k6)
  simp only [List.set, La, Lb, Lc, List.length_append, List.length_cons, List.length_nil, Nat.zero_add] at hs7
  have H7 := Ak hs7; clear hs7
  first | go_end0 | refine bodyPost_ret (results_none rfl _ _ _) rfl ?_
  exact ⟨rfl, vV, _, _, H7.out⟩
def litVal (vals : List Int) (n : Int) : Int := if n < 0 then -(rd vals (-n)) else rd vals n
def openRun (vals : List Int) : List Int → List Int → List Int × Bool
  | l, [] => (l, false)
  | l, n :: c => if litVal vals n = 1 then ([], true) else if litVal vals n = 0 then (if l.length = 0 then openRun vals (l ++ [n]) c else (l ++ [n], false)) else if 1 < l.length then (l, false) else openRun vals l c
def Sv.look (s : Sv) (i : Int) : Bool × Sv :=
  if (openRun s.vals [] (rdL s.cl i)).2 = true ∨ 1 < (openRun s.vals [] (rdL s.cl i)).1.length then (false, s)
  else match (openRun s.vals [] (rdL s.cl i)).1 with
    | [] => (true, s)
    | n :: _ => (false, s.assume n i)
def tv (t : List Int) (i : Nat) : Int := if (i : Int) ∈ t then 1 else if -(i : Int) ∈ t then -1 else 0
theorem tv_zero {t : List Int} {i : Nat} : tv t i = 0 ↔ ∀ n ∈ t, n.natAbs ≠ i := by
  unfold tv
  constructor
  · intro h n hn e
    split at h
    · cases h
    · rename_i h1
      split at h
      · cases h
      · rename_i h2
        rcases Int.natAbs_eq n with hh | hh
        · rw [e] at hh; rw [hh] at hn; exact h1 hn
        · rw [e] at hh; rw [hh] at hn; exact h2 hn
  · intro h
    rw [if_neg (fun hn => h _ hn (by omega)), if_neg (fun hn => h _ hn (by omega))]
structure Sv.Ok (s : Sv) : Prop where
  vars0 : 0 ≤ s.vars
  vars1 : s.vars ≤ 1000
  vals : (s.vals.length : Int) = s.vars + 1
  unit : ∀ x ∈ s.vals, x = -1 ∨ x = 0 ∨ x = 1
  lits : ∀ c ∈ s.cl, ∀ n ∈ c, n ≠ 0 ∧ -s.vars ≤ n ∧ n ≤ s.vars
  clen : s.cl.length ≤ 100000
  llen : ∀ c ∈ s.cl, c.length ≤ 100000
  same : s.reasons.length = s.trail.length
  few : s.trail.length ≤ s.vals.countP (fun x => x != 0)
  done0 : 0 ≤ s.done
  done1 : s.done ≤ s.trail.length
  tlits : ∀ n ∈ s.trail, n ≠ 0 ∧ -s.vars ≤ n ∧ n ≤ s.vars
  occ : ∀ p ∈ s.occ, ∀ i ∈ p.2, 0 ≤ i ∧ i < s.cl.length
  olen : ∀ p ∈ s.occ, p.2.length ≤ 1000000000000
  det : ∀ i : Nat, i < s.vals.length → s.vals.getD i 0 = tv s.trail i
  nodup : (s.trail.map Int.natAbs).Nodup
theorem Sv.Ok.trail_le {s : Sv} (h : s.Ok) : s.trail.length ≤ 1001 := by
  have h1 := h.few
  have h2 : s.vals.countP (fun x => x != 0) ≤ s.vals.length := List.countP_le_length
  have h3 := h.vals; have h4 := h.vars1
  omega
theorem rd_mem {l : List Int} {i : Int} (h0 : 0 ≤ i) (h1 : i < l.length) : rd l i ∈ l := by
  unfold rd
  rw [List.getD_eq_getElem?_getD, List.getElem?_eq_getElem (by omega)]
  exact List.getElem_mem _
structure VOk (vars : Int) (vals : List Int) : Prop where
  vars0 : 0 ≤ vars
  vars1 : vars ≤ 1000
  len : (vals.length : Int) = vars + 1
  unit : ∀ x ∈ vals, x = -1 ∨ x = 0 ∨ x = 1
theorem Sv.Ok.v {s : Sv} (h : s.Ok) : VOk s.vars s.vals := ⟨h.vars0, h.vars1, h.vals, h.unit⟩
theorem VOk.rd_unit {vars : Int} {vals : List Int} (h : VOk vars vals) {i : Int} (h0 : 0 ≤ i) (h1 : i ≤ vars) : rd vals i = -1 ∨ rd vals i = 0 ∨ rd vals i = 1 :=
  h.unit _ (rd_mem h0 (by have := h.len; omega))
theorem of_f {vars : Int} {vals : List Int} (h : VOk vars vals) {n : Int} (hn : n ≠ 0 ∧ -vars ≤ n ∧ n ≤ vars) : cnf_values_of.f vals n = some (litVal vals n) := by
  have h1 := h.vars1; have h2 := h.len
  have hw : wrap64 (-n) = -n := by unfold wrap64; omega
  unfold cnf_values_of.f litVal
  rw [hw]
  by_cases hl : n < 0
  · rw [if_pos hl, if_pos hl, if_pos (by omega), if_pos (by omega)]
    rcases h.rd_unit (i := -n) (by omega) (by omega) with e | e | e <;> rw [e] <;> rfl
  · rw [if_neg hl, if_neg hl, if_pos (by omega), if_pos (by omega)]
theorem open_l0 {vars : Int} {vals : List Int} (h : VOk vars vals) (c : List Int) (hc : ∀ n ∈ c, n ≠ 0 ∧ -vars ≤ n ∧ n ≤ vars) (hlen : c.length ≤ 100000) : ∀ (d i : Nat) (l : List Int) (k : Nat), i + d = c.length → l.length ≤ 1 → d < k →
    cnf_values_open.l0 k vals l c (c.length : Int) (i : Int) = some (openRun vals l (c.drop i)) := by
  intro d
  induction d with
  | zero =>
    intro i l k hi hl hk
    obtain ⟨k, rfl⟩ : ∃ m, k = m + 1 := ⟨k - 1, by omega⟩
    rw [List.drop_of_length_le (by omega)]
    simp only [cnf_values_open.l0]
    rw [if_neg (by omega)]
    rfl
  | succ d ih =>
    intro i l k hi hl hk
    obtain ⟨k, rfl⟩ : ∃ m, k = m + 1 := ⟨k - 1, by omega⟩
    have hlt : i < c.length := by omega
    have hr : rd c (i : Int) = c[i] := by simp [rd, hlt]
    have hm : rd c (i : Int) ∈ c := by rw [hr]; exact List.getElem_mem hlt
    have hd : c.drop i = rd c (i : Int) :: c.drop (i + 1) := by rw [List.drop_eq_getElem_cons hlt, hr]
    have hw : wrap64 ((i : Int) + 1) = ((i + 1 : Nat) : Int) := by unfold wrap64; omega
    rw [hd]
    simp only [cnf_values_open.l0]
    rw [if_pos (by omega), if_pos (by omega), if_pos (by omega), of_f h (hc _ hm)]
    simp only [Option.bind_some]
    unfold openRun
    by_cases h1 : litVal vals (rd c (i : Int)) = 1
    · rw [if_pos h1, if_pos h1]
    · rw [if_neg h1, if_neg h1]
      by_cases h0 : litVal vals (rd c (i : Int)) = 0
      · rw [if_pos h0, if_pos h0, if_pos (by omega)]
        by_cases hz : l.length = 0
        · rw [if_pos hz, if_neg (by simp; omega), hw]
          exact ih (i + 1) _ k (by omega) (by rw [List.length_append, hz]; simp) (by omega)
        · rw [if_neg hz, if_pos (by simp; omega)]
      · have e1 : ¬ ((l.length : Int) > 1) := by omega
        have e2 : ¬ (1 < l.length) := by omega
        rw [if_neg h0, if_neg h0, if_neg e1, if_neg e2, hw]
        exact ih (i + 1) _ k (by omega) hl (by omega)
theorem open_f {vars : Int} {vals : List Int} (h : VOk vars vals) (c : List Int) (hc : ∀ n ∈ c, n ≠ 0 ∧ -vars ≤ n ∧ n ≤ vars) (hlen : c.length ≤ 100000) : cnf_values_open.f (c.length + 1) vals c = some (openRun vals [] c) := by
  have := open_l0 h c hc hlen c.length 0 [] (c.length + 1) (by omega) (by simp) (by omega)
  unfold cnf_values_open.f
  simpa using this
theorem openRun_mem (vals : List Int) : ∀ (c l : List Int), (∀ n ∈ (openRun vals l c).1, n ∈ l ∨ n ∈ c) ∧ ((openRun vals l c).2 = false → ∀ n ∈ (openRun vals l c).1, n ∈ l ∨ litVal vals n = 0)
  | [], l => ⟨fun n hn => .inl (by simpa [openRun] using hn), fun _ n hn => .inl (by simpa [openRun] using hn)⟩
  | n :: c, l => by
    unfold openRun
    split
    · simp
    · split
      · rename_i h0
        split
        · obtain ⟨i1, i2⟩ := openRun_mem vals c (l ++ [n])
          refine ⟨fun m hm => ?_, fun he m hm => ?_⟩
          · rcases i1 m hm with h | h
            · rcases List.mem_append.1 h with h | h
              · exact .inl h
              · rw [List.mem_singleton.1 h]; exact .inr (List.mem_cons_self ..)
            · exact .inr (List.mem_cons_of_mem _ h)
          · rcases i2 he m hm with h | h
            · rcases List.mem_append.1 h with h | h
              · exact .inl h
              · rw [List.mem_singleton.1 h]; exact .inr h0
            · exact .inr h
        · refine ⟨fun m hm => ?_, fun he m hm => ?_⟩
          · rcases List.mem_append.1 hm with h | h
            · exact .inl h
            · rw [List.mem_singleton.1 h]; exact .inr (List.mem_cons_self ..)
          · rcases List.mem_append.1 hm with h | h
            · exact .inl h
            · rw [List.mem_singleton.1 h]; exact .inr h0
      · split
        · exact ⟨fun m hm => .inl hm, fun _ m hm => .inl hm⟩
        · obtain ⟨i1, i2⟩ := openRun_mem vals c l
          exact ⟨fun m hm => (i1 m hm).imp id (List.mem_cons_of_mem _), i2⟩
theorem Sv.Ok.clause {s : Sv} (h : s.Ok) {i : Int} (h0 : 0 ≤ i) (h1 : i < s.cl.length) : rdL s.cl i ∈ s.cl := by
  unfold rdL
  rw [List.getD_eq_getElem?_getD, List.getElem?_eq_getElem (by omega)]
  exact List.getElem_mem _
set_option maxHeartbeats 8000000 in
set_option maxRecDepth 100000 in
theorem look75 (s : Sv) (i : Int) (fx : Fx) (g : Nat) (w : World) (R : List Asn) (h : IsSv fx w g s R) (hok : s.Ok) (hfx : fx.Ok s.cl s.occ) (hi : 0 ≤ i ∧ i < s.cl.length) :
    Calls Try.prog 75 #[.pointer (some ⟨g, 0, none⟩), .int .i64 i] w fun e w' => e = .returned (.bool (s.look i).1) ∧ IsSv fx w' g (s.look i).2 R := by
  obtain ⟨vV, tV, rV, h⟩ := h
  simp only [SvL, List.cons_append, List.nil_append] at h
  have hu82 := Try.underlying82
  obtain ⟨hi0, hi1⟩ := hi
  have hmem := hok.clause hi0 hi1
  have hopen := open_f hok.v _ (hok.lits _ hmem) (hok.llen _ hmem)
  obtain ⟨Av, cv, rfl, hcv, _⟩ := h.row_reads (i := 2) rfl
  have hmm := openRun_mem s.vals (rdL s.cl i) []
  obtain ⟨adc, A1, c1, hAc, hl1, hrd⟩ := hfx.row i hi0 hi1
  generalize hlk : s.look i = lk
  unfold Sv.look at hlk
  generalize hcl : rdL s.cl i = cl at hopen hmem hmm hlk hl1 hrd
  generalize hor : openRun s.vals [] cl = o at hopen hmm hlk
  obtain ⟨l, dn⟩ := o
  dsimp only at hlk hmm
  rw [hAc] at h
  have HM := Ak hmm; have HO := Ak hopen; have HK := Ak hlk; have HOK := Ak hok
  have HC := Ak hcl; have HAc := Ak hAc
  have H := Ak h
  have HCV := Ak hcv
  have HR := Ak hrd
  have HL := Ak hl1
  clear hmm hopen hlk hok hcl h hor hmem hcv hrd hl1 hfx hAc
  go_enter Try.func75, Try.ntmps75
  go_wp2
  have n0_ := Ak H.out.drew
  clear H
  have H := n0_
  clear n0_
  refine start_ (n := 17) (S := fun w' => St fx.w0 w' (box g 82 #[.int .i64 s.vars, .slice (some adc) s.cl.length fx.cc, .map (some fx.b), .slice Av s.vals.length cv, tV, rV, .int .i64 s.done, .int .i64 s.fuel, .int .i64 s.steps, .slice none 0 0, .bool false, .bool s.failed] :: fzA fx.wS fx.F0 :: row fx.w0.heap.size (Kd.int .i8) 96 (.slice Av s.vals.length cv) s.vals :: row fx.w0.heap.size (Kd.int .i64) 3 tV s.trail :: row fx.w0.heap.size (Kd.int .i64) 3 rV s.reasons :: R)) (ds := []) #[false, false, false, false, false, false, false, false, false, false, false, false, false, false, false, false, false] (by kernel_rfl) rfl rfl (H.out) (fun hHeld => ?_)
  generalize World.drew _ = w_0 at H hHeld ⊢
  refine pure_ (i := 0) (N := some 8) (v := ?_) (a' := ?_) #[true, false, false, false, false, false, false, false, false, false, false, false, false, false, false, false, false] rfl rfl (by kernel_rfl) (fun _ _ _ h => h) (Or.inl ⟨by rfl, ?_⟩) ?_ ?_
  rotate_left
  · intro w'
    go_simp
    with_reducible rfl
  rotate_left
  · (try simp only [Act.put, La, Lb, Lc, i64_w, i32_w])
    rfl
  refine pure_ (i := 1) (N := some 9) (v := ?_) (a' := ?_) #[true, true, false, false, false, false, false, false, false, false, false, false, false, false, false, false, false] rfl rfl (by kernel_rfl) (fun _ _ _ h => h) (Or.inl ⟨by rfl, ?_⟩) ?_ ?_
  rotate_left
  · intro w'
    go_simp
    with_reducible rfl
  rotate_left
  · (try simp only [Act.put, La, Lb, Lc, i64_w, i32_w])
    rfl
  refine pure_ (i := 2) (N := some 10) (v := ?_) (a' := ?_) #[true, true, true, false, false, false, false, false, false, false, false, false, false, false, false, false, false] rfl rfl (by kernel_rfl) (fun _ _ _ h => h) (Or.inl ⟨by rfl, ?_⟩) ?_ ?_
  rotate_left
  · intro w'
    go_simp
    with_reducible rfl
  rotate_left
  · (try simp only [Act.put, La, Lb, Lc, i64_w, i32_w])
    rfl
  refine take_ (i := 3) (N := some 11) (v := ?_) (a' := ?_) #[true, true, true, true, false, false, false, false, false, false, false, false, false, false, false, false, false] rfl rfl (by kernel_rfl) (fun _ _ _ h => h) (Or.inl ⟨by rfl, ?_⟩) hHeld ?_ ?_
  rotate_left
  · intro w' hs
    have k1 := hs.box_cell (i := 0) rfl 1
    have k3 := hs.box_cell (i := 0) rfl 3
    have hx8 := (HR.out w' (fx_at hs (i := 1) rfl)).1
    simp only [List.getElem?_toArray, List.getElem?_cons_zero, List.getElem?_cons_succ] at k1 k3
    go_simp
    with_reducible rfl
  rotate_left
  · (try simp only [Act.put, La, Lb, Lc, i64_w, i32_w])
    rfl
  refine pure_ (i := 4) (N := some 12) (v := ?_) (a' := ?_) #[true, true, true, true, true, false, false, false, false, false, false, false, false, false, false, false, false] rfl rfl (by kernel_rfl) (fun _ _ _ h => h) (Or.inl ⟨by rfl, ?_⟩) ?_ ?_
  rotate_left
  · intro w'
    go_simp
    with_reducible rfl
  rotate_left
  · (try simp only [Act.put, La, Lb, Lc, i64_w, i32_w])
    rfl
  refine pure_ (i := 5) (N := some 13) (v := ?_) (a' := ?_) #[true, true, true, true, true, true, false, false, false, false, false, false, false, false, false, false, false] rfl rfl (by kernel_rfl) (fun _ _ _ h => h) (Or.inl ⟨by rfl, ?_⟩) ?_ ?_
  rotate_left
  · intro w'
    go_simp
    with_reducible rfl
  rotate_left
  · (try simp only [Act.put, La, Lb, Lc, i64_w, i32_w])
    rfl
  refine pure_ (i := 6) (N := some 14) (v := ?_) (a' := ?_) #[true, true, true, true, true, true, true, false, false, false, false, false, false, false, false, false, false] rfl rfl (by kernel_rfl) (fun _ _ _ h => h) (Or.inl ⟨by rfl, ?_⟩) ?_ ?_
  rotate_left
  · intro w'
    go_simp
    with_reducible rfl
  rotate_left
  · (try simp only [Act.put, La, Lb, Lc, i64_w, i32_w])
    rfl
  refine take_ (i := 7) (N := some 15) (v := ?_) (a' := ?_) #[true, true, true, true, true, true, true, true, false, false, false, false, false, false, false, false, false] rfl rfl (by kernel_rfl) (fun _ _ _ h => h) (Or.inl ⟨by rfl, ?_⟩) hHeld ?_ ?_
  rotate_left
  · intro w' hs
    have k1 := hs.box_cell (i := 0) rfl 1
    have k3 := hs.box_cell (i := 0) rfl 3
    have hx8 := (HR.out w' (fx_at hs (i := 1) rfl)).1
    simp only [List.getElem?_toArray, List.getElem?_cons_zero, List.getElem?_cons_succ] at k1 k3
    go_simp
    with_reducible rfl
  rotate_left
  · (try simp only [Act.put, La, Lb, Lc, i64_w, i32_w])
    rfl
  refine pure_ (i := 8) (N := some 16) (v := ?_) (a' := ?_) #[true, true, true, true, true, true, true, true, true, false, false, false, false, false, false, false, false] rfl rfl (by kernel_rfl) (fun _ _ _ h => h) (Or.inl ⟨by rfl, ?_⟩) ?_ ?_
  rotate_left
  · intro w'
    go_simp
    with_reducible rfl
  rotate_left
  · (try simp only [Act.put, La, Lb, Lc, i64_w, i32_w])
    rfl
  refine pure_ (i := 9) (N := some 17) (v := ?_) (a' := ?_) #[true, true, true, true, true, true, true, true, true, true, false, false, false, false, false, false, false] rfl rfl (by kernel_rfl) (fun _ _ _ h => h) (Or.inl ⟨by rfl, ?_⟩) ?_ ?_
  rotate_left
  · intro w'
    go_simp
    with_reducible rfl
  rotate_left
  · (try simp only [Act.put, La, Lb, Lc, i64_w, i32_w])
    rfl
  refine take_ (i := 10) (N := some 18) (v := ?_) (a' := ?_) #[true, true, true, true, true, true, true, true, true, true, true, false, false, false, false, false, false] rfl rfl (by kernel_rfl) (fun _ _ _ h => h) (Or.inl ⟨by rfl, ?_⟩) hHeld ?_ ?_
  rotate_left
  · intro w' hs
    have k1 := hs.box_cell (i := 0) rfl 1
    have k3 := hs.box_cell (i := 0) rfl 3
    have hx8 := (HR.out w' (fx_at hs (i := 1) rfl)).1
    simp only [List.getElem?_toArray, List.getElem?_cons_zero, List.getElem?_cons_succ] at k1 k3
    go_simp
    with_reducible rfl
  rotate_left
  · (try simp only [Act.put, La, Lb, Lc, i64_w, i32_w])
    rfl
  refine one_ (i := 11) (N := some 19) #[true, true, true, true, true, true, true, true, true, true, true, true, false, false, false, false, false] rfl rfl (by kernel_rfl) (by decide) (fun K hK => ?_)
  refine goes_ Try.func63 (by kernel_rfl) rfl ?args_2 (by rfl) rfl rfl ?hargs_2 ?main_2
  rotate_left 2
  with_reducible refine (cnf_values_open.calls _ _ _ s.vals _ _ cl l dn _ (by obtain ⟨A7, c7, e7, _, hr7⟩ := H.out.row_reads (i := 2) rfl; injection e7 with e71 e72 e73; subst e71; exact hr7) HCV.out (HR.out _ (fx_at H.out (i := 1) rfl)).2 HL.out HO.out).mono ?_
  case hargs_2 => ((try simp only [List.map_toArray, List.map_cons, List.map_nil]); first | done | rfl)
  rintro e w_1 ⟨v1, rfl, hR1, hb⟩
  refine ⟨_, rfl, ?_⟩
  have n0_ := Ak (H.out.row_new hb hR1)
  clear H
  have H := n0_
  clear n0_
  clear hHeld
  (try clear hb)
  refine hK.out _ _ (H.out.drop 0) (fun hHeld => ?_)
  clear hK K
  refine norm_ (a' := ?_) ?_ ?_
  rotate_left
  · show Act.put _ (some 19) _ = _
    (try simp only [Act.put, La, Lb, Lc, i64_w, i32_w])
    rfl
  refine pure_ (i := 12) (N := some 7) (v := ?_) (a' := ?_) #[true, true, true, true, true, true, true, true, true, true, true, true, true, false, false, false, false] rfl rfl (by kernel_rfl) (fun _ _ _ h => h) (Or.inl ⟨by rfl, ?_⟩) ?_ ?_
  rotate_left
  · intro w'
    go_simp
    with_reducible rfl
  rotate_left
  · (try simp only [Act.put, La, Lb, Lc, i64_w, i32_w])
    rfl
  refine pure_ (i := 13) (N := some 20) (v := ?_) (a' := ?_) #[true, true, true, true, true, true, true, true, true, true, true, true, true, true, false, false, false] rfl rfl (by kernel_rfl) (fun _ _ _ h => h) (Or.inl ⟨by rfl, ?_⟩) ?_ ?_
  rotate_left
  · intro w'
    go_simp
    with_reducible rfl
  rotate_left
  · (try simp only [Act.put, La, Lb, Lc, i64_w, i32_w])
    rfl
  refine pure_ (i := 14) (N := some 21) (v := ?_) (a' := ?_) #[true, true, true, true, true, true, true, true, true, true, true, true, true, true, true, false, false] rfl rfl (by kernel_rfl) (fun _ _ _ h => h) (Or.inl ⟨by rfl, ?_⟩) ?_ ?_
  rotate_left
  · intro w'
    go_simp
    with_reducible rfl
  rotate_left
  · (try simp only [Act.put, La, Lb, Lc, i64_w, i32_w])
    rfl
  refine pure_ (i := 15) (N := some 5) (v := ?_) (a' := ?_) #[true, true, true, true, true, true, true, true, true, true, true, true, true, true, true, true, false] rfl rfl (by kernel_rfl) (fun _ _ _ h => h) (Or.inl ⟨by rfl, ?_⟩) ?_ ?_
  rotate_left
  · intro w'
    go_simp
    with_reducible rfl
  rotate_left
  · (try simp only [Act.put, La, Lb, Lc, i64_w, i32_w])
    rfl
  refine pure_ (i := 16) (N := some 6) (v := ?_) (a' := ?_) #[true, true, true, true, true, true, true, true, true, true, true, true, true, true, true, true, true] rfl rfl (by kernel_rfl) (fun _ _ _ h => h) (Or.inl ⟨by rfl, ?_⟩) ?_ ?_
  rotate_left
  · intro w'
    go_simp
    with_reducible rfl
  rotate_left
  · (try simp only [Act.put, La, Lb, Lc, i64_w, i32_w])
    rfl
  refine done_ (by kernel_rfl) ?_
  have hs1 := H.out
  obtain ⟨A2, c2, rfl, hl2, hr2⟩ := hs1.row_reads (i := 0) rfl
  have H1 := Ak (hs1.drop 0); have HR2 := Ak hr2
  simp only [List.eraseIdx] at H1
  clear H hs1 hHeld hl2 hr2
  have hkeep : ∀ w', St fx.w0 w' (box g 82 #[.int .i64 s.vars, .slice (some adc) s.cl.length fx.cc, .map (some fx.b), .slice Av s.vals.length cv, tV, rV, .int .i64 s.done, .int .i64 s.fuel, .int .i64 s.steps, .slice none 0 0, .bool false, .bool s.failed] :: fzA fx.wS fx.F0 :: row fx.w0.heap.size (Kd.int .i8) 96 (.slice Av s.vals.length cv) s.vals :: row fx.w0.heap.size (Kd.int .i64) 3 tV s.trail :: row fx.w0.heap.size (Kd.int .i64) 3 rV s.reasons :: R) → IsSv fx w' g s R := fun w' hs => ⟨_, _, _, by simp only [SvL, List.cons_append, List.nil_append]; rw [HAc.out]; exact hs⟩
  have HKP := Ak hkeep; clear hkeep
  by_cases hA : dn = true ∨ 1 < l.length
  · have hk := HK.out; rw [if_pos hA] at hk; subst hk
    clear HK
    rcases Bool.eq_false_or_eq_true dn with hd | hd
    · subst hd
      clear hA
      go_wp2
      go_ret
      exact ⟨rfl, HKP.out _ H1.out⟩
    · subst hd
      have h2 : 1 < l.length := by simpa using hA
      have h3 : ¬ (l.length ≤ 1) := by omega
      have h4 : (1 : Int) < (l.length : Int) := by omega
      clear hA
      go_wp2
      go_ret
      exact ⟨rfl, HKP.out _ H1.out⟩
  · have hk := HK.out; rw [if_neg hA] at hk
    clear HK
    obtain rfl : dn = false := by
      cases dn
      · rfl
      · simp at hA
    have h2 : l.length ≤ 1 := by simp at hA; omega
    cases l with
    | nil =>
      dsimp only at hk
      subst hk
      clear hA
      go_wp2
      go_ret
      exact ⟨rfl, HKP.out _ H1.out⟩
    | cons n l' =>
      obtain rfl : l' = [] := by
        cases l' with
        | nil => rfl
        | cons _ _ => simp at h2
      dsimp only at hk
      subst hk
      have h0 : litVal s.vals n = 0 := by
        rcases HM.out.2 rfl n (List.mem_cons_self ..) with h | h
        · simp at h
        · exact h
      have hmn : n ∈ rdL s.cl i := by
        rw [HC.out]
        rcases HM.out.1 n (List.mem_cons_self ..) with h | h
        · simp at h
        · exact h
      have hln := HOK.out.lits _ (HOK.out.clause hi0 hi1) n hmn
      have hkn : s.knows n := ⟨hln.1, by have := HOK.out.vars1; omega, by have := HOK.out.vars1; omega, by have := HOK.out.vals; omega⟩
      have htl := HOK.out.trail_le
      have hrl := HOK.out.same
      obtain ⟨ad2, rfl, hx2⟩ := Kd.at_int HR2.out 0 (by omega) (by simp)
      have HKN := Ak hkn; have HTL := Ak htl; have HRL := Ak hrl
      clear hA h0 hmn hln hkn htl hrl h2
      simp only [Int.toNat_zero, rd, List.getD_cons_zero, Addr.add_zero'] at hx2
      go_wp2_with fail
      refine (assume77 s n i fx g _ R (HKP.out _ H1.out) HKN.out (by have := HTL.out; omega) (by have := HTL.out; have := HRL.out; omega)).mono ?_
      clear hx2
      rintro e w2 ⟨rfl, hs2⟩
      have H2 := Ak hs2; clear hs2 H1
      go_wp2
      go_ret
      exact ⟨rfl, H2.out⟩
end Go.Proofs.Ytapbkoolddnjgaa.PA
