/- What the claim needs of PAx1: lemmas and contracts, cut by a program to what is used. -/
import Derived.Test.YtapbkoolddnjgaaQfPAx0
namespace Go.Proofs.Ytapbkoolddnjgaa.PA
open Go.RowKit Go.Proofs.YtapbkoolddnjgaaW.PrintWords Go.Proofs.YtapbkoolddnjgaaW.PrintLast Go.Proofs.YtapbkoolddnjgaaW.PrintMore Go.Proofs.Sl
attribute [local go_sem] max2_int min2_int max_two min_two max_three min_three max_four min_four
set_option linter.unusedVariables false
set_option linter.unusedSimpArgs false
def ratchetbase_Ints.l0 : Nat → List Int → List Int → Int → Option (Bool)
  | 0, _, _, _ => none
  | k + 1, x0, x1, x5 => if x5 < (x0.length : Int) then (if 0 ≤ x5 then (if x5 < (x1.length : Int) then (if (rd x0 x5) = (rd x1 x5) then (ratchetbase_Ints.l0 k x0 x1 (wrap64 (x5 + 1))) else (some false)) else (none)) else (none)) else (some true)
def ratchetbase_Ints.f (k : Nat) (l0 : List Int) (l1 : List Int) : Option (Bool) := if (l0.length : Int) = (l1.length : Int) then (ratchetbase_Ints.l0 k l0 l1 0) else (some false)
set_option maxHeartbeats 8000000 in
set_option maxRecDepth 100000 in
theorem ratchetbase_Ints.calls (k : Nat) (A0 : Option Addr) (c0 : Nat) (l0 : List Int) (A1 : Option Addr) (c1 : Nat) (l1 : List Int) (r : Bool) (w : World) (hr0 : Kd.C (Kd.int .i64) w A0 l0.length l0) (hc0 : l0.length ≤ c0) (hr1 : Kd.C (Kd.int .i64) w A1 l1.length l1) (hc1 : l1.length ≤ c1) (h : ratchetbase_Ints.f k l0 l1 = some r) :
    Calls Try.prog 14 #[.slice A0 l0.length c0, .slice A1 l1.length c1] w fun e w' => e = .returned (.bool r) ∧ Drawn0 w w' := by
  have HR0 := Ak hr0
  have HC0 := Ak hc0
  clear hr0 hc0
  have HR1 := Ak hr1
  have HC1 := Ak hc1
  clear hr1 hc1
  have H : (if (l0.length : Int) = (l1.length : Int) then (ratchetbase_Ints.l0 k l0 l1 0) else (some false)) = some r := h
  clear h
  by_cases c3 : (l0.length : Int) = (l1.length : Int)
  · rw [if_pos c3] at H
    have c3b0 : ((l0.length : Int) == (l1.length : Int)) = true := beq_iff_eq.mpr c3
    have c3b1 : ((l0.length : Int) != (l1.length : Int)) = false := bne_eq_false_iff_eq.mpr c3
    have c3b2 : (l0.length == l1.length) = true := by first | simpa using c3 | (simp at c3 ⊢; omega)
    clear c3
    have H' := Ak H
    clear H
    go_enter Try.func14, Try.ntmps14
    go_wp2
    repeat (go_quiet (fail); try go_wp2)
    go_loopg [5] k (fun kq v5 w' => ∃ (x5_1 : Int), v5 = .int .i64 x5_1 ∧ Aside0 (ratchetbase_Ints.l0 kq l0 l1 x5_1 = some r) ∧ Aside0 (kq ≤ k) ∧ Drawn0 w w')
    case atStart => exact ⟨(0), (by first | rfl | (simp; done) | (simp [*]; done)), H', ⟨Nat.le_refl _⟩, by repeat (first | exact Drawn0.refl _ | apply Drawn0.step)⟩
    case round =>
      clear H'
      try clear c1
      try clear p2
      try clear c3
      try clear c3b0
      try clear c3b1
      try clear c3b2
      obtain ⟨x5_1, rfl, HA, HK1, ⟨m1, rfl⟩⟩ := hrel
      cases gk with
      | zero => exact absurd HA.out (by simp [ratchetbase_Ints.l0])
      | succ k1 =>
        have H := HA.out
        clear HA
        simp only [ratchetbase_Ints.l0] at H
        by_cases c4 : x5_1 < (l0.length : Int)
        · rw [if_pos c4] at H
          have c4b0 : decide (x5_1 < (l0.length : Int)) = true := decide_eq_true c4
          clear c4
          by_cases c5 : 0 ≤ x5_1
          · rw [if_pos c5] at H
            have c5b0 : decide (0 ≤ x5_1) = true := decide_eq_true c5
            clear c5
            by_cases c6 : x5_1 < (l1.length : Int)
            · rw [if_pos c6] at H
              have c6b0 : decide (x5_1 < (l1.length : Int)) = true := decide_eq_true c6
              clear c6
              by_cases c7 : (rd l0 x5_1) = (rd l1 x5_1)
              · rw [if_pos c7] at H
                have c7b0 : ((rd l0 x5_1) == (rd l1 x5_1)) = true := beq_iff_eq.mpr c7
                have c7b1 : ((rd l0 x5_1) != (rd l1 x5_1)) = false := bne_eq_false_iff_eq.mpr c7
                clear c7
                have H' := Ak H
                clear H
                have p101 : 0 ≤ (x5_1 : Int) := of_decide_eq_true (by first | (with_reducible assumption) | assumption)
                have q101 : x5_1 < (l0.length : Int) := of_decide_eq_true (by first | (with_reducible assumption) | assumption)
                obtain ⟨ad101, e101, hx101_0⟩ := Kd.at_int HR0.out x5_1 p101 q101
                cases e101
                replace p101 := eq_true p101
                replace q101 := eq_true q101
                have p102 : 0 ≤ (x5_1 : Int) := of_decide_eq_true (by first | (with_reducible assumption) | assumption)
                have q102 : x5_1 < (l1.length : Int) := of_decide_eq_true (by first | (with_reducible assumption) | assumption)
                obtain ⟨ad102, e102, hx102_0⟩ := Kd.at_int HR1.out x5_1 p102 q102
                cases e102
                replace p102 := eq_true p102
                replace q102 := eq_true q102
                go_wp2
                repeat (go_quiet (fail); try go_wp2)
                go_roundg k1
                case measure => have := HK1.out; omega
                case rel => exact ⟨(wrap64 (x5_1 + 1)), (by first | rfl | (simp; done) | (simp [*]; done)), H', ⟨by have := HK1.out; omega⟩, by repeat (first | exact Drawn0.refl _ | apply Drawn0.step)⟩
              · rw [if_neg c7] at H
                have c7b0 : ((rd l0 x5_1) == (rd l1 x5_1)) = false := beq_eq_false_iff_ne.mpr c7
                have c7b1 : ((rd l0 x5_1) != (rd l1 x5_1)) = true := bne_iff_ne.mpr c7
                obtain rfl := Option.some.inj H
                have p101 : 0 ≤ (x5_1 : Int) := of_decide_eq_true (by first | (with_reducible assumption) | assumption)
                have q101 : x5_1 < (l0.length : Int) := of_decide_eq_true (by first | (with_reducible assumption) | assumption)
                obtain ⟨ad101, e101, hx101_0⟩ := Kd.at_int HR0.out x5_1 p101 q101
                cases e101
                replace p101 := eq_true p101
                replace q101 := eq_true q101
                have p102 : 0 ≤ (x5_1 : Int) := of_decide_eq_true (by first | (with_reducible assumption) | assumption)
                have q102 : x5_1 < (l1.length : Int) := of_decide_eq_true (by first | (with_reducible assumption) | assumption)
                obtain ⟨ad102, e102, hx102_0⟩ := Kd.at_int HR1.out x5_1 p102 q102
                cases e102
                replace p102 := eq_true p102
                replace q102 := eq_true q102
                go_wp2
                repeat (go_quiet (fail); try go_wp2)
                go_ret
                exact ⟨by first | rfl | (simp; done) | (simp [*]; done), by repeat (first | exact Drawn0.refl _ | apply Drawn0.step)⟩
            · rw [if_neg c6] at H
              exact absurd H (by simp)
          · rw [if_neg c5] at H
            exact absurd H (by simp)
        · rw [if_neg c4] at H
          have c4b0 : decide (x5_1 < (l0.length : Int)) = false := decide_eq_false c4
          clear c4
          obtain rfl := Option.some.inj H
          go_wp2
          repeat (go_quiet (fail); try go_wp2)
          go_ret
          exact ⟨by first | rfl | (simp; done) | (simp [*]; done), by repeat (first | exact Drawn0.refl _ | apply Drawn0.step)⟩
  · rw [if_neg c3] at H
    have c3b0 : ((l0.length : Int) == (l1.length : Int)) = false := beq_eq_false_iff_ne.mpr c3
    have c3b1 : ((l0.length : Int) != (l1.length : Int)) = true := bne_iff_ne.mpr c3
    have c3b2 : (l0.length == l1.length) = false := by first | simpa using c3 | (simp at c3 ⊢; omega)
    obtain rfl := Option.some.inj H
    go_enter Try.func14, Try.ntmps14
    go_wp2
    repeat (go_quiet (fail); try go_wp2)
    go_ret
    exact ⟨by first | rfl | (simp; done) | (simp [*]; done), by repeat (first | exact Drawn0.refl _ | apply Drawn0.step)⟩
def cnf_first.l0 : Nat → List Int → Int → Int → Option (Int)
  | 0, _, _, _ => none
  | k + 1, x5, x6, x7 => if x7 < x6 then (if 0 ≤ x7 then (if x7 < (x5.length : Int) then (if (rd x5 x7) = 0 then (cnf_first.l0 k x5 x6 (wrap64 (x7 + 1))) else (some (rd x5 x7))) else (none)) else (none)) else (some 0)
def cnf_first.f (k : Nat) (l0 : List Int) : Option (Int) := cnf_first.l0 k l0 (l0.length : Int) 0
set_option maxHeartbeats 8000000 in
set_option maxRecDepth 100000 in
theorem cnf_first.calls (k : Nat) (A0 : Option Addr) (c0 : Nat) (l0 : List Int) (r : Int) (w : World) (hr0 : Kd.C (Kd.int .i64) w A0 l0.length l0) (hc0 : l0.length ≤ c0) (h : cnf_first.f k l0 = some r) :
    Calls Try.prog 36 #[.slice A0 l0.length c0] w fun e w' => e = .returned (.int .i64 r) ∧ Drawn0 w w' := by
  have HR0 := Ak hr0
  have HC0 := Ak hc0
  clear hr0 hc0
  have H : (cnf_first.l0 k l0 (l0.length : Int) 0) = some r := h
  clear h
  have H' := Ak H
  clear H
  go_enter Try.func36, Try.ntmps36
  go_wp2
  go_loopg [7] k (fun kq v7 w' => ∃ (x7_1 : Int), v7 = .int .i64 x7_1 ∧ Aside0 (cnf_first.l0 kq l0 (l0.length : Int) x7_1 = some r) ∧ Aside0 (kq ≤ k) ∧ Drawn0 w w')
  case atStart => exact ⟨(0), (by first | rfl | (simp; done) | (simp [*]; done)), H', ⟨Nat.le_refl _⟩, by repeat (first | exact Drawn0.refl _ | apply Drawn0.step)⟩
  case round =>
    clear H'
    obtain ⟨x7_1, rfl, HA, HK1, ⟨m1, rfl⟩⟩ := hrel
    cases gk with
    | zero => exact absurd HA.out (by simp [cnf_first.l0])
    | succ k1 =>
      have H := HA.out
      clear HA
      simp only [cnf_first.l0] at H
      by_cases c2 : x7_1 < (l0.length : Int)
      · rw [if_pos c2] at H
        have c2b0 : decide (x7_1 < (l0.length : Int)) = true := decide_eq_true c2
        clear c2
        by_cases c3 : 0 ≤ x7_1
        · rw [if_pos c3] at H
          have c3b0 : decide (0 ≤ x7_1) = true := decide_eq_true c3
          clear c3
          by_cases c4 : x7_1 < (l0.length : Int)
          · rw [if_pos c4] at H
            have c4b0 : decide (x7_1 < (l0.length : Int)) = true := decide_eq_true c4
            clear c4
            by_cases c5 : (rd l0 x7_1) = 0
            · rw [if_pos c5] at H
              have c5b0 : ((rd l0 x7_1) == 0) = true := beq_iff_eq.mpr c5
              have c5b1 : ((rd l0 x7_1) != 0) = false := bne_eq_false_iff_eq.mpr c5
              clear c5
              have H' := Ak H
              clear H
              have p103 : 0 ≤ (x7_1 : Int) := of_decide_eq_true (by first | (with_reducible assumption) | assumption)
              have q103 : x7_1 < (l0.length : Int) := of_decide_eq_true (by first | (with_reducible assumption) | assumption)
              obtain ⟨ad103, e103, hx103_0⟩ := Kd.at_int HR0.out x7_1 p103 q103
              cases e103
              replace p103 := eq_true p103
              replace q103 := eq_true q103
              go_wp2
              go_roundg k1
              case measure => have := HK1.out; omega
              case rel => exact ⟨(wrap64 (x7_1 + 1)), (by first | rfl | (simp; done) | (simp [*]; done)), H', ⟨by have := HK1.out; omega⟩, by repeat (first | exact Drawn0.refl _ | apply Drawn0.step)⟩
            · rw [if_neg c5] at H
              have c5b0 : ((rd l0 x7_1) == 0) = false := beq_eq_false_iff_ne.mpr c5
              have c5b1 : ((rd l0 x7_1) != 0) = true := bne_iff_ne.mpr c5
              obtain rfl := Option.some.inj H
              have p103 : 0 ≤ (x7_1 : Int) := of_decide_eq_true (by first | (with_reducible assumption) | assumption)
              have q103 : x7_1 < (l0.length : Int) := of_decide_eq_true (by first | (with_reducible assumption) | assumption)
              obtain ⟨ad103, e103, hx103_0⟩ := Kd.at_int HR0.out x7_1 p103 q103
              cases e103
              replace p103 := eq_true p103
              replace q103 := eq_true q103
              go_wp2
              go_ret
              exact ⟨by first | rfl | (simp; done) | (simp [*]; done), by repeat (first | exact Drawn0.refl _ | apply Drawn0.step)⟩
          · rw [if_neg c4] at H
            exact absurd H (by simp)
        · rw [if_neg c3] at H
          exact absurd H (by simp)
      · rw [if_neg c2] at H
        have c2b0 : decide (x7_1 < (l0.length : Int)) = false := decide_eq_false c2
        clear c2
        obtain rfl := Option.some.inj H
        go_wp2
        go_ret
        exact ⟨by first | rfl | (simp; done) | (simp [*]; done), by repeat (first | exact Drawn0.refl _ | apply Drawn0.step)⟩
def cnf_unless.f (a0 : Bool) (a1 : Int) : Option (Int) := if a0 = true then (some 0) else (some a1)
set_option maxHeartbeats 8000000 in
set_option maxRecDepth 100000 in
theorem cnf_unless.calls (a0 : Bool) (a1 : Int) (r : Int) (w : World) (h : cnf_unless.f a0 a1 = some r) :
    Calls Try.prog 37 #[.bool a0, .int .i64 a1] w fun e w' => e = .returned (.int .i64 r) ∧ Drawn0 w w' := by
  have H : (if a0 = true then (some 0) else (some a1)) = some r := h
  clear h
  by_cases c3 : a0 = true
  · subst c3
    have H1 : (some 0) = some r := by rw [if_pos rfl] at H; exact H
    clear H
    have H := H1
    clear H1
    obtain rfl := Option.some.inj H
    go_enter Try.func37, Try.ntmps37
    go_wp2
    go_ret
    exact ⟨by first | rfl | (simp; done) | (simp [*]; done), by repeat (first | exact Drawn0.refl _ | apply Drawn0.step)⟩
  · replace c3 := Bool.eq_false_iff.mpr c3
    subst c3
    have H1 : (some a1) = some r := by rw [if_neg (show ¬ (false = true) by decide)] at H; exact H
    clear H
    have H := H1
    clear H1
    obtain rfl := Option.some.inj H
    go_enter Try.func37, Try.ntmps37
    go_wp2
    go_ret
    exact ⟨by first | rfl | (simp; done) | (simp [*]; done), by repeat (first | exact Drawn0.refl _ | apply Drawn0.step)⟩
def cnf_within.f (a0 : Int) (a1 : Int) (a2 : Int) : Option (Bool) := if a1 ≤ a0 then (some (decide (a0 ≤ a2))) else (some false)
set_option maxHeartbeats 8000000 in
set_option maxRecDepth 100000 in
theorem cnf_within.calls (a0 : Int) (a1 : Int) (a2 : Int) (r : Bool) (w : World) (h : cnf_within.f a0 a1 a2 = some r) :
    Calls Try.prog 38 #[.int .i64 a0, .int .i64 a1, .int .i64 a2] w fun e w' => e = .returned (.bool r) ∧ Drawn0 w w' := by
  have H : (if a1 ≤ a0 then (some (decide (a0 ≤ a2))) else (some false)) = some r := h
  clear h
  by_cases c4 : a1 ≤ a0
  · rw [if_pos c4] at H
    have c4b0 : decide (a1 ≤ a0) = true := decide_eq_true c4
    clear c4
    obtain rfl := Option.some.inj H
    go_enter Try.func38, Try.ntmps38
    go_wp2
    go_ret
    exact ⟨by first | rfl | (simp; done) | (simp [*]; done), by repeat (first | exact Drawn0.refl _ | apply Drawn0.step)⟩
  · rw [if_neg c4] at H
    have c4b0 : decide (a1 ≤ a0) = false := decide_eq_false c4
    clear c4
    obtain rfl := Option.some.inj H
    go_enter Try.func38, Try.ntmps38
    go_wp2
    go_ret
    exact ⟨by first | rfl | (simp; done) | (simp [*]; done), by repeat (first | exact Drawn0.refl _ | apply Drawn0.step)⟩
set_option maxHeartbeats 1000000 in
set_option maxRecDepth 100000 in
theorem each39 {σ : Type} (step : σ → Nat → List Int → Int × σ) (I : σ → World → Prop) (F : FuncId) (caps : Array Value) (A : Option Addr) (c : Nat) (l : List (List Int)) (hl : l.length ≤ 9223372036854775807)
    (hF : ∀ (args : Array Value) (w : World), (callFunc F args).run Try.prog w = .ok (.enter F args) w)
    (hread : ∀ s w, I s w → Kd.C (Kd.slice 3 (Kd.int .i64)) w A l.length l)
    (hstep : ∀ s i w A' c', I s w → i < l.length → Kd.C (Kd.int .i64) w A' (rdL l i).length (rdL l i) → (rdL l i).length ≤ c' → Calls Try.prog F (#[.int .i64 (i : Int), .slice A' (rdL l i).length c'] ++ caps) w fun e w' => e = .returned (.int .i64 (step s i (rdL l i)).1) ∧ I (step s i (rdL l i)).2 w')
    (s : σ) (w : World) (h : I s w) :
    Calls Try.prog 39 #[.slice A l.length c, .func (.func F) #[] caps] w fun e w' =>
      e = .returned (.tuple #[.int .i64 (eachRun step s 0 l).1.1, .int .i64 (eachRun step s 0 l).1.2]) ∧ I (eachRun step s 0 l).2 w' := by
  generalize hR : eachRun step s 0 l = R
  have HR := Ak hR
  have HI := Ak h
  have HS := Ak hstep
  have HD := Ak hread
  clear hR h hstep hread
  go_enter Try.func39, Try.ntmps39
  go_wp2
  go_loopg [11] l.length (fun k v11 wr => ∃ (i : Nat) (s : σ), v11 = .int .i64 (i : Int) ∧ Aside0 (i + k = l.length) ∧ Aside0 (I s wr) ∧ Aside0 (eachRun step s i (l.drop i) = R))
  case atStart => exact ⟨0, s, rfl, ⟨by omega⟩, HI, ⟨by simpa using HR.out⟩⟩
  case round =>
    obtain ⟨i, s, rfl, HK, HI, HE⟩ := hrel
    by_cases hi : i < l.length
    · have hi0 : (0 : Int) ≤ (i : Int) := by omega
      have hi1 : (i : Int) < (l.length : Int) := by omega
      obtain ⟨ad, A', c', rfl, hx, hxc, hxr⟩ := at_rows (HD.out s wr HI.out) (i : Int) hi0 hi1
      rw [Int.toNat_natCast] at hx
      have hd : l.drop i = rdL l (i : Int) :: l.drop (i + 1) := by
        rw [List.drop_eq_getElem_cons hi]; simp [rdL, hi]
      have HE2 := HE.out; rw [hd] at HE2; unfold eachRun at HE2
      have HE3 := Ak HE2; clear HE HE2 hd
      have HC := Ak hxc; have HX := Ak hxr; clear hxc hxr
      go_wp2_with fail
      refine (HS.out s i _ A' c' HI.out hi HX.out HC.out).mono ?_
      clear hx
      rintro e w1 ⟨rfl, hI⟩
      have HI1 := Ak hI; clear hI HI
      by_cases he : (step s i (rdL l ↑i)).1 = 0
      · have HE4 := HE3.out; rw [if_pos he] at HE4
        have HE5 := Ak HE4; clear HE4 HE3
        have he0 : ((step s i (rdL l ↑i)).1 != 0) = false := bne_eq_false_iff_eq.2 he
        clear he
        go_wp2
        go_roundg (gk - 1)
        case measure => have := HK.out; omega
        case rel => exact ⟨i + 1, _, by go_num, ⟨by have := HK.out; omega⟩, HI1, HE5⟩
      · have HE4 := HE3.out; rw [if_neg he] at HE4
        have HE5 := Ak HE4; clear HE4 HE3
        have he0 : ((step s i (rdL l ↑i)).1 != 0) = true := bne_iff_ne.2 he
        clear he
        go_wp2
        go_ret2
        rw [← HE5.out]
        exact ⟨rfl, HI1.out⟩
    · have hi1 : ¬ (i : Int) < (l.length : Int) := by omega
      have HE2 := HE.out; rw [List.drop_of_length_le (by omega)] at HE2; unfold eachRun at HE2
      have HE3 := Ak HE2; clear HE HE2
      go_wp2
      go_ret2
      rw [← HE3.out]
      exact ⟨rfl, HI.out⟩
set_option maxHeartbeats 1000000 in
set_option maxRecDepth 100000 in
theorem each83 {σ : Type} (step : σ → Nat → Int → Int × σ) (I : σ → World → Prop) (F : FuncId) (caps : Array Value) (A : Option Addr) (c : Nat) (l : List Int) (hl : l.length ≤ 9223372036854775807)
    (hF : ∀ (args : Array Value) (w : World), (callFunc F args).run Try.prog w = .ok (.enter F args) w)
    (hread : ∀ s w, I s w → Kd.C (Kd.int .i64) w A l.length l)
    (hstep : ∀ s i w, I s w → i < l.length → Calls Try.prog F (#[.int .i64 (i : Int), .int .i64 (rd l i)] ++ caps) w fun e w' => e = .returned (.int .i64 (step s i (rd l i)).1) ∧ I (step s i (rd l i)).2 w')
    (s : σ) (w : World) (h : I s w) :
    Calls Try.prog 83 #[.slice A l.length c, .func (.func F) #[] caps] w fun e w' =>
      e = .returned (.tuple #[.int .i64 (eachRun step s 0 l).1.1, .int .i64 (eachRun step s 0 l).1.2]) ∧ I (eachRun step s 0 l).2 w' := by
  generalize hR : eachRun step s 0 l = R
  have HR := Ak hR
  have HI := Ak h
  have HS := Ak hstep
  have HD := Ak hread
  clear hR h hstep hread
  go_enter Try.func83, Try.ntmps83
  go_wp2
  go_loopg [11] l.length (fun k v11 wr => ∃ (i : Nat) (s : σ), v11 = .int .i64 (i : Int) ∧ Aside0 (i + k = l.length) ∧ Aside0 (I s wr) ∧ Aside0 (eachRun step s i (l.drop i) = R))
  case atStart => exact ⟨0, s, rfl, ⟨by omega⟩, HI, ⟨by simpa using HR.out⟩⟩
  case round =>
    obtain ⟨i, s, rfl, HK, HI, HE⟩ := hrel
    by_cases hi : i < l.length
    · have hi0 : (0 : Int) ≤ (i : Int) := by omega
      have hi1 : (i : Int) < (l.length : Int) := by omega
      obtain ⟨ad, rfl, hx⟩ := Kd.at_int (HD.out s wr HI.out) (i : Int) hi0 hi1
      rw [Int.toNat_natCast] at hx
      have hd : l.drop i = rd l (i : Int) :: l.drop (i + 1) := by
        rw [List.drop_eq_getElem_cons hi]; simp [rd, hi]
      have HE2 := HE.out; rw [hd] at HE2; unfold eachRun at HE2
      have HE3 := Ak HE2; clear HE HE2 hd
      go_wp2_with fail
      refine (HS.out s i _ HI.out hi).mono ?_
      clear hx
      rintro e w1 ⟨rfl, hI⟩
      have HI1 := Ak hI; clear hI HI
      by_cases he : (step s i (rd l ↑i)).1 = 0
      · have HE4 := HE3.out; rw [if_pos he] at HE4
        have HE5 := Ak HE4; clear HE4 HE3
        have he0 : ((step s i (rd l ↑i)).1 != 0) = false := bne_eq_false_iff_eq.2 he
        clear he
        go_wp2
        go_roundg (gk - 1)
        case measure => have := HK.out; omega
        case rel => exact ⟨i + 1, _, by go_num, ⟨by have := HK.out; omega⟩, HI1, HE5⟩
      · have HE4 := HE3.out; rw [if_neg he] at HE4
        have HE5 := Ak HE4; clear HE4 HE3
        have he0 : ((step s i (rd l ↑i)).1 != 0) = true := bne_iff_ne.2 he
        clear he
        go_wp2
        go_ret2
        rw [← HE5.out]
        exact ⟨rfl, HI1.out⟩
    · have hi1 : ¬ (i : Int) < (l.length : Int) := by omega
      have HE2 := HE.out; rw [List.drop_of_length_le (by omega)] at HE2; unfold eachRun at HE2
      have HE3 := Ak HE2; clear HE HE2
      go_wp2
      go_ret2
      rw [← HE3.out]
      exact ⟨rfl, HI.out⟩
def cnf_variable.f (a0 : Int) : Option (Int) := some (mx a0 (wrap64 (-a0)))
set_option maxHeartbeats 8000000 in
set_option maxRecDepth 100000 in
theorem cnf_variable.calls (a0 : Int) (r : Int) (w : World) (h : cnf_variable.f a0 = some r) :
    Calls Try.prog 47 #[.int .i64 a0] w fun e w' => e = .returned (.int .i64 r) ∧ Below w.heap.size w w' := by
  have HB := Ak (Below.refl w.heap.size w)
  have H : (some (mx a0 (wrap64 (-a0)))) = some r := h
  clear h
  obtain ⟨ji2, hji2⟩ : ∃ j_ : Int, (mx a0 (wrap64 (-a0))) = j_ := ⟨_, rfl⟩
  replace H : (some ji2) = some r := by first | (rw [hji2] at H; exact H) | (simp only [hji2] at H ⊢; exact H)
  have hji2_ : (if a0 < (wrap64 (-a0)) then (wrap64 (-a0)) else a0) = ji2 := hji2
  obtain rfl := Option.some.inj H
  go_enter Try.func47, Try.ntmps47
  go_wp2
  go_ret
  exact ⟨by first | rfl | (simp [errW_none, errW_some] <;> rfl) | (simp only [← hji2]; first | rfl | (simp [errW_none, errW_some] <;> rfl)) | (simp [*, errW_none, errW_some] <;> rfl), by repeat (first | (with_reducible first | exact HB.out | apply below_alloc | apply pw_below_drewN | apply below_drew1) | exact HB.out)⟩
theorem mx_neg {n : Int} (h : -1000 ≤ n ∧ n ≤ 1000) : mx n (wrap64 (-n)) = if n < 0 then -n else n := by
  unfold mx wrap64; omega
def litStep (vars before n : Int) : Int × Int :=
  if n = 0 then (2, before) else if wrap64 (-vars) ≤ n ∧ n ≤ vars then (if mx n (wrap64 (-n)) > before then 0 else 9, mx n (wrap64 (-n))) else (2, before)
set_option maxHeartbeats 1000000 in
set_option maxRecDepth 100000 in
theorem lit1 (i n vars before : Int) (p q : Nat) (w0 w : World) (R : List Asn) (h : St w0 w (box p 3 #[.int .i64 vars] :: box q 3 #[.int .i64 before] :: R)) :
    Calls Try.prog 84 #[.int .i64 i, .int .i64 n, .pointer (some ⟨p, 0, none⟩), .pointer (some ⟨q, 0, none⟩)] w fun e w' =>
      e = .returned (.int .i64 (litStep vars before n).1) ∧ St w0 w' (box p 3 #[.int .i64 vars] :: box q 3 #[.int .i64 (litStep vars before n).2] :: R) := by
  have hp := h.box_cell (i := 0) rfl 0
  have hq := h.box_cell (i := 1) rfl 0
  simp only [List.getElem?_toArray, List.getElem?_cons_zero] at hp hq
  have H := Ak h
  clear h
  generalize hL : litStep vars before n = L
  unfold litStep at hL
  by_cases h0 : n = 0
  · subst h0
    have HL := Ak hL; clear hL
    go_enter Try.func84, Try.ntmps84
    go_wp2
    go_ret
    rw [← HL.out]
    exact ⟨by simp, by simpa using H.out⟩
  · rw [if_neg h0] at hL
    have e0 : (n == 0) = false := beq_eq_false_iff_ne.2 h0
    have n1 : IntKind.i64.wrap (-vars) = wrap64 (-vars) := i64_w _
    by_cases h1 : wrap64 (-vars) ≤ n ∧ n ≤ vars
    · rw [if_pos h1] at hL
      have HL := Ak hL; clear hL
      go_enter Try.func84, Try.ntmps84
      go_wp2_with fail
      refine (cnf_within.calls _ _ _ true _ (by unfold cnf_within.f; rw [if_pos h1.1]; simp [h1.2])).mono ?_
      rintro e w1 ⟨rfl, hd⟩
      have H1 := Ak (H.out.mv hd.below); clear hd hp hq H
      have hq := H1.out.box_cell (i := 1) rfl 0
      simp only [List.getElem?_toArray, List.getElem?_cons_zero] at hq
      go_wp2_with fail
      refine (cnf_variable.calls n _ _ rfl).mono ?_
      rintro e w2 ⟨rfl, hd⟩
      have H2 := Ak (H1.out.mv hd); clear hd hq H1
      have hq := H2.out.box_cell (i := 1) rfl 0
      simp only [List.getElem?_toArray, List.getElem?_cons_zero] at hq
      generalize mx n (wrap64 (-n)) = m at HL ⊢
      by_cases hm : m > before
      · have HL2 := HL.out; rw [if_pos hm] at HL2
        have HL3 := Ak HL2; clear HL2 HL
        go_wp2_with fail
        refine (cnf_unless.calls _ 9 0 _ (by simp [cnf_unless.f])).mono ?_
        rintro e w3 ⟨rfl, hd⟩
        have H3 := Ak (H2.out.mv hd.below); clear hd hq H2
        have hq := H3.out.box_cell (i := 1) rfl 0
        have hqf := H3.out.box_free (i := 1) rfl 0
        simp only [List.getElem?_toArray, List.getElem?_cons_zero] at hq
        clear hm
        go_wp2
        go_ret
        rw [← HL3.out]
        exact ⟨rfl, by simpa using H3.out.box_set (i := 1) rfl 0 (.int .i64 m)⟩
      · have HL2 := HL.out; rw [if_neg hm] at HL2
        have HL3 := Ak HL2; clear HL2 HL
        go_wp2_with fail
        refine (cnf_unless.calls _ 9 9 _ (by simp [cnf_unless.f]; omega)).mono ?_
        rintro e w3 ⟨rfl, hd⟩
        have H3 := Ak (H2.out.mv hd.below); clear hd hq H2
        have hq := H3.out.box_cell (i := 1) rfl 0
        have hqf := H3.out.box_free (i := 1) rfl 0
        simp only [List.getElem?_toArray, List.getElem?_cons_zero] at hq
        clear hm
        go_wp2
        go_ret
        rw [← HL3.out]
        exact ⟨rfl, by simpa using H3.out.box_set (i := 1) rfl 0 (.int .i64 m)⟩
    · rw [if_neg h1] at hL
      have HL := Ak hL; clear hL
      have h1' := Ak h1; clear h1
      go_enter Try.func84, Try.ntmps84
      go_wp2_with fail
      refine (cnf_within.calls _ _ _ false _ (by unfold cnf_within.f; have := h1'.out; split <;> simp_all)).mono ?_
      rintro e w1 ⟨rfl, hd⟩
      have H1 := Ak (H.out.mv hd.below); clear hd hp hq H
      go_wp2
      go_ret
      rw [← HL.out]
      exact ⟨rfl, H1.out⟩
def litErr (vars : Int) (l : List Int) (most : Int) : Int :=
  if (l.length : Int) > most then 8 else (eachRun (fun b _ n => litStep vars b n) 0 0 l).1.2
def cnf_literalsErr.f (a0 : Int) (l1 : List Int) (a2 : Int) : Option Int := some (litErr a0 l1 a2)
set_option maxHeartbeats 1000000 in
set_option maxRecDepth 100000 in
theorem cnf_literalsErr.calls (a0 : Int) (A1 : Option Addr) (c1 : Nat) (l1 : List Int) (a2 : Int) (r : Int) (w : World) (hr1 : Kd.C (Kd.int .i64) w A1 l1.length l1) (hc1 : l1.length ≤ c1) (h : cnf_literalsErr.f a0 l1 a2 = some r) :
    Calls Try.prog 61 #[.int .i64 a0, .slice A1 l1.length c1, .int .i64 a2] w fun e w' => e = .returned (.int .i64 r) ∧ Below w.heap.size w w' := by
  obtain rfl : litErr a0 l1 a2 = r := Option.some.inj h
  clear h
  have HR := Ak hr1
  have H0 := Ak (St.start w)
  have hl : l1.length ≤ 9223372036854775807 := hr1.2.1
  clear hr1
  generalize hL : litErr a0 l1 a2 = L
  unfold litErr at hL
  by_cases h0 : a2 < (l1.length : Int)
  · rw [if_pos h0] at hL
    subst hL
    go_enter Try.func61, Try.ntmps61
    go_wp2
    go_ret
    exact ⟨rfl, (Below.refl _ _).alloc (Nat.le_refl _) _⟩
  · rw [if_neg h0] at hL
    have HL := Ak hL; clear hL
    go_enter Try.func61, Try.ntmps61
    go_wp2_with fail
    have HS := ((H0.out.box_new 3 #[.int .i64 a0]).box_new 3 #[.int .i64 0]).front (i := 1) rfl
    simp only [World.size_alloc, List.eraseIdx] at HS
    refine (each83 (fun b _ n => litStep a0 b n) (fun b w' => St w w' (box w.heap.size 3 #[.int .i64 a0] :: box (w.heap.size + 1) 3 #[.int .i64 b] :: [])) 84 _ A1 c1 l1 hl (enters_ Try.func84 rfl rfl) (fun b w' hs => Kd.C_below HR.out hs.below) (fun b i w' hs hi => ?_) 0 _ HS).mono ?_
    · exact lit1 _ _ _ _ _ _ _ _ _ hs
    rintro e w1 ⟨rfl, hs⟩
    have H1 := Ak hs; clear hs HS H0
    go_wp2
    go_ret
    exact ⟨by rw [HL.out]; rfl, H1.out.below⟩
def cnf_clauseErr.f (a0_0 : Int) (l0_1 : List (List Int)) (l1 : List Int) : Option (Int) := (cnf_literalsErr.f a0_0 l1 12).bind fun t105 => (some t105)
set_option maxHeartbeats 8000000 in
set_option maxRecDepth 100000 in
theorem cnf_clauseErr.calls (a0_0 : Int) (A0_1 : Option Addr) (c0_1 : Nat) (l0_1 : List (List Int)) (A1 : Option Addr) (c1 : Nat) (l1 : List Int) (r : Int) (w : World) (hr0_1 : Kd.C (Kd.slice 3 (Kd.int .i64)) w A0_1 l0_1.length l0_1) (hc0_1 : l0_1.length ≤ c0_1) (hr1 : Kd.C (Kd.int .i64) w A1 l1.length l1) (hc1 : l1.length ≤ c1) (h : cnf_clauseErr.f a0_0 l0_1 l1 = some r) :
    Calls Try.prog 41 #[.agg #[.int .i64 a0_0, .slice A0_1 l0_1.length c0_1], .slice A1 l1.length c1] w fun e w' => e = .returned (.int .i64 r) ∧ Below w.heap.size w w' := by
  have hu24 := Try.underlying24
  have HR0_1 := Ak hr0_1
  have HC0_1 := Ak hc0_1
  clear hr0_1 hc0_1
  have HR1 := Ak hr1
  have HC1 := Ak hc1
  clear hr1 hc1
  have HB := Ak (Below.refl w.heap.size w)
  have H : ((cnf_literalsErr.f a0_0 l1 12).bind fun t105 => (some t105)) = some r := h
  clear h
  replace H := Option.bind_eq_some_iff.mp H
  obtain ⟨t105, A30, H⟩ := H
  replace H : (some t105) = some r := H
  have A3 := Ak A30
  clear A30
  obtain rfl := Option.some.inj H
  go_enter Try.func41, Try.ntmps41
  go_wp2_with (first | ((with_reducible refine gate_dst (N := 2) rfl ?_); refine box_event ?hg (N := 2) ?hd (cs := #[.int .i64 a0_0, .slice A0_1 l0_1.length c0_1]) (t := 24) ?hr ?_; (case hd => rfl); (case hg => rfl); (case hr => first | (go_simp; done) | (go_simp; rfl)); intro gb104 hg w4 hbox hb; have n0_ := Ak (below_step (by repeat (first | (with_reducible first | exact HB.out | apply below_alloc | apply pw_below_drewN | apply below_drew1) | exact HB.out)) hb); have n1_ := Ak (hbox); have n2_ := Ak ((by rw [hg]; exact (below_size (by repeat (first | (with_reducible first | exact HB.out | apply below_alloc | apply pw_below_drewN | apply below_drew1) | exact HB.out))) : w.heap.size ≤ gb104)); have n3_ := Ak ((by rw [hg]; exact (below_size (by repeat (first | (with_reducible first | exact HB.out | apply below_alloc | apply pw_below_drewN | apply below_drew1) | exact HB.out))) : w.heap.size ≤ gb104)); clear HB; have HB := n0_; have BK104 := n1_; have GW104 := n2_; have GE104 := n3_; clear n0_ n1_ n2_ n3_; clear hb hbox hg; have hcz5_0 : w4.cell? ⟨gb104, 0, none⟩ = some (.int .i64 a0_0) := (blk_cell BK104.out 0).trans rfl; have hcz5_1 : w4.cell? ⟨gb104, 1, none⟩ = some (.slice A0_1 l0_1.length c0_1) := (blk_cell BK104.out 1).trans rfl; have hfz5_0 := blk_frozen BK104.out 0; have hfz5_1 := blk_frozen BK104.out 1) | ((with_reducible refine gate_callee (f := 61) rfl ?_); refine goesL_ (some 8) rfl rfl Try.func61 (by kernel_rfl) rfl #[.int .i64 a0_0, .slice A1 l1.length c1, .int .i64 12] rfl (by (try simp only [List.map_toArray, List.map_cons, List.map_nil]); first | done | rfl | (simp only [List.length_drop, List.length_take]; rfl)) ?_; (with_reducible refine (cnf_literalsErr.calls a0_0 _ _ l1 12 t105 _ ?side1 ?side2 A3.out).mono ?_); (case side1 => repeat (first | exact (Kd.C_below HR1.out HB.out) | (with_reducible refine Kd.C_alloc ?_ _) | (with_reducible refine Kd.C_drewN ?_ _) | (with_reducible refine Kd.C_drew ?_))); (case side2 => exact HC1.out); rintro e w6 ⟨rfl, hb⟩; refine ⟨_, rfl, ?_⟩; have n0_ := Ak (blk_below (g := gb104) (o := .cells #[.int .i64 a0_0, .slice A0_1 l0_1.length c0_1] 24 (0, 0)) (by (with_reducible repeat (first | refine blk_drewN ?_ _ | refine blk_drew ?_ | refine blk_alloc ?_ _)); exact BK104.out) hb); have n1_ := Ak (below_step (by repeat (first | (with_reducible first | exact HB.out | apply below_alloc | apply pw_below_drewN | apply below_drew1 | refine below_set ?_ GE104.out) | exact HB.out)) hb); clear BK104; clear HB; have BK104 := n0_; have HB := n1_; clear n0_ n1_; (try clear hb); (try clear hb2); (try clear hk); (try clear hi)))
  go_ret
  exact ⟨by first | rfl | (simp [errW_none, errW_some] <;> rfl) | (simp [*, errW_none, errW_some] <;> rfl), by repeat (first | (with_reducible first | exact HB.out | apply below_alloc | apply pw_below_drewN | apply below_drew1 | refine below_set ?_ GE104.out) | exact HB.out)⟩
end Go.Proofs.Ytapbkoolddnjgaa.PA
