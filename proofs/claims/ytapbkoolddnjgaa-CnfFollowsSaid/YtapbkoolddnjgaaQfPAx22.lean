/- What the claim needs of PAx22: lemmas and contracts, cut by a program to what is used. -/
import Derived.Test.YtapbkoolddnjgaaQfPAx0
import Derived.Test.YtapbkoolddnjgaaQfPAx1
import Derived.Test.YtapbkoolddnjgaaQfPAx2
import Derived.Test.YtapbkoolddnjgaaQfPAx3
import Derived.Test.YtapbkoolddnjgaaQfPAx5
import Derived.Test.YtapbkoolddnjgaaQfPAx7
import Derived.Test.YtapbkoolddnjgaaQfPAx8
import Derived.Test.YtapbkoolddnjgaaQfPAx10
import Derived.Test.YtapbkoolddnjgaaQfPAx11
import Derived.Test.YtapbkoolddnjgaaQfPAx12
import Derived.Test.YtapbkoolddnjgaaQfPAx14
namespace Go.Proofs.Ytapbkoolddnjgaa.PA
open Go.RowKit Go.Proofs.YtapbkoolddnjgaaW.PrintWords Go.Proofs.YtapbkoolddnjgaaW.PrintLast Go.Proofs.YtapbkoolddnjgaaW.PrintMore Go.Proofs.Sl
attribute [local go_sem] max2_int min2_int max_two min_two max_three min_three max_four min_four
set_option linter.unusedVariables false
set_option linter.unusedSimpArgs false
def ratchetref03_FuelErr.f (a0 : Int) : Option (Int) := (ratchetbase_Within.f a0 0 20000).bind fun t312 => (if t312 = true then (some 0) else (some 2))
set_option maxHeartbeats 8000000 in
set_option maxRecDepth 100000 in
theorem ratchetref03_FuelErr.calls (a0 : Int) (r : Int) (w : World) (h : ratchetref03_FuelErr.f a0 = some r) :
    Calls Try.prog 18 #[.int .i64 a0] w fun e w' => e = .returned (.int .i64 r) ∧ Drawn0 w w' := by
  have H : ((ratchetbase_Within.f a0 0 20000).bind fun t312 => (if t312 = true then (some 0) else (some 2))) = some r := h
  clear h
  replace H := Option.bind_eq_some_iff.mp H
  obtain ⟨t312, A20, H⟩ := H
  replace H : (if t312 = true then (some 0) else (some 2)) = some r := H
  have A2 := Ak A20
  clear A20
  by_cases c3 : t312 = true
  · subst c3
    have H1 : (some 0) = some r := by rw [if_pos rfl] at H; exact H
    clear H
    have H := H1
    clear H1
    obtain rfl := Option.some.inj H
    go_enter Try.func18, Try.ntmps18
    go_wp2_with (first | ((with_reducible refine gate_callee (f := 48) rfl ?_); refine goesL_ (some 4) rfl rfl Try.func48 (by kernel_rfl) rfl #[.int .i64 a0, .int .i64 0, .int .i64 20000] rfl (by (try simp only [List.map_toArray, List.map_cons, List.map_nil]); first | done | rfl | (simp only [List.length_drop, List.length_take]; rfl)) ?_; (with_reducible refine (ratchetbase_Within.calls a0 0 20000 true _ A2.out).mono ?_); rintro e w' ⟨rfl, ⟨nd, rfl⟩⟩; refine ⟨_, rfl, ?_⟩))
    go_ret
    exact ⟨by first | rfl | (simp; done) | (simp [*]; done), by repeat (first | exact Drawn0.refl _ | apply Drawn0.step)⟩
  · replace c3 := Bool.eq_false_iff.mpr c3
    subst c3
    have H1 : (some 2) = some r := by rw [if_neg (show ¬ (false = true) by decide)] at H; exact H
    clear H
    have H := H1
    clear H1
    obtain rfl := Option.some.inj H
    go_enter Try.func18, Try.ntmps18
    go_wp2_with (first | ((with_reducible refine gate_callee (f := 48) rfl ?_); refine goesL_ (some 4) rfl rfl Try.func48 (by kernel_rfl) rfl #[.int .i64 a0, .int .i64 0, .int .i64 20000] rfl (by (try simp only [List.map_toArray, List.map_cons, List.map_nil]); first | done | rfl | (simp only [List.length_drop, List.length_take]; rfl)) ?_; (with_reducible refine (ratchetbase_Within.calls a0 0 20000 false _ A2.out).mono ?_); rintro e w' ⟨rfl, ⟨nd, rfl⟩⟩; refine ⟨_, rfl, ?_⟩))
    go_ret
    exact ⟨by first | rfl | (simp; done) | (simp [*]; done), by repeat (first | exact Drawn0.refl _ | apply Drawn0.step)⟩
theorem box_row {w0 w : World} {L : List Asn} {g : Nat} {x : Int} (h : St w0 w (box g 3 #[.int .i64 x] :: L)) : St w0 w (row w0.heap.size (Kd.int .i64) 3 (.slice (some ⟨g, 0, none⟩) 1 1) [x] :: L) := by
  have hg := h.box_at (i := 0) rfl
  obtain ⟨F, ⟨F1, F2, he, hd, hA, hL⟩, hF⟩ := h.sep
  refine ⟨h.below, F, ⟨F1, F2, he, hd, ⟨Kd.R_of_own ?_ (fun k hk => ?_), fun b hb => ?_⟩, hL⟩, hF⟩
  · exact ⟨rfl, .inr ⟨g, 1, #[.int .i64 x], rfl, hg.2, hg.1, Nat.le_refl _, by unfold maxLen; omega, rfl, rfl⟩⟩
  · simp only [Value.ownBlock, Option.some.injEq] at hk
    exact (hA.1 k).2 hk.symm
  · rw [(hA.1 b).1 hb]; exact blk_lt hg.1
def against (L : List (List Int)) (C : List Int) : List (List Int) := L ++ C.map (fun n => [wrap64 (-n)])
def followsErr (V : Int) (L : List (List Int)) (C : List Int) (fuel : Int) : Int :=
  if (checkFormula V L).2 = 0 then (if litErr V C 12 = 0 then (if 0 ≤ fuel ∧ fuel ≤ 20000 then 0 else 2) else litErr V C 12) else (checkFormula V L).2
def followsFrom (V : Int) (L : List (List Int)) (C : List Int) (fuel : Int) : Bool × Int :=
  if followsErr V L C fuel = 0 then (if (newSv V (against L C) fuel).solve.2.failed = true then (false, 28) else (!(newSv V (against L C) fuel).solve.1, 0)) else (false, followsErr V L C fuel)
def cnf_FollowsFrom.f (a0_0 : Int) (l0_1 : List (List Int)) (l1 : List Int) (a2 : Int) : Option (Bool × Int) := some (followsFrom a0_0 l0_1 l1 a2)
theorem against_sv {V fuel : Int} {L : List (List Int)} {C : List Int} (h : (checkFormula V L).2 = 0) (hC : litErr V C 12 = 0) : (newSv V (against L C) fuel).Ok ∧ (against L C).length ≤ 5000 ∧ (∀ c ∈ against L C, c.length ≤ 100000) ∧ 0 ≤ V ∧ V ≤ 1000 ∧ C.length ≤ 12 := by
  obtain ⟨h1, h2, h3, h4⟩ := checkFormula_ok h
  obtain ⟨g1, g2, g3, _, _⟩ := formula_sv (fuel := 0) h
  have hl : C.length ≤ 12 := by
    unfold litErr at hC
    by_cases h12 : (C.length : Int) > 12
    · rw [if_pos h12] at hC; simp at hC
    · omega
  have hlen : (against L C).length ≤ 5000 := by unfold against; simp; omega
  have hll : ∀ c ∈ against L C, c.length ≤ 100000 := by
    intro c hc
    rcases List.mem_append.1 hc with hc | hc
    · exact g3 c hc
    · obtain ⟨n, _, rfl⟩ := List.mem_map.1 hc
      simp
  refine ⟨newSv_ok ⟨h1, h2⟩ (by omega) hll (fun c hc n hn => ?_), hlen, hll, h1, h2, hl⟩
  rcases List.mem_append.1 hc with hc | hc
  · exact g1.lits c hc n hn
  · obtain ⟨m, hm, rfl⟩ := List.mem_map.1 hc
    obtain ⟨h5, h6, h7⟩ := litErr_mem hC m hm
    have h8 : wrap64 (-V) = -V := by unfold wrap64; omega
    rw [h8] at h6
    have h9 : wrap64 (-m) = -m := by unfold wrap64; omega
    have : n = -m := by rw [← h9]; simpa using hn
    omega
set_option maxHeartbeats 8000000 in
set_option maxRecDepth 100000 in
theorem cnf_FollowsFrom.calls (a0_0 : Int) (A0_1 : Option Addr) (c0_1 : Nat) (l0_1 : List (List Int)) (A1 : Option Addr) (c1 : Nat) (l1 : List Int) (a2 : Int) (r1 : Bool) (r2 : Int) (w : World) (hr0_1 : Kd.C (Kd.slice 3 (Kd.int .i64)) w A0_1 l0_1.length l0_1) (hc0_1 : l0_1.length ≤ c0_1) (hr1 : Kd.C (Kd.int .i64) w A1 l1.length l1) (hc1 : l1.length ≤ c1) (h : cnf_FollowsFrom.f a0_0 l0_1 l1 a2 = some (r1, r2)) :
    Calls Try.prog 19 #[.agg #[.int .i64 a0_0, .slice A0_1 l0_1.length c0_1], .slice A1 l1.length c1, .int .i64 a2] w fun e w' => e = .returned (.tuple #[.bool r1, .int .i64 r2]) ∧ Below w.heap.size w w' := by
  have hE : followsFrom a0_0 l0_1 l1 a2 = (r1, r2) := Option.some.inj h
  clear h
  obtain ⟨e1, he1⟩ : ∃ e1 : Int, e1 = (checkFormula a0_0 l0_1).2 := ⟨_, rfl⟩
  obtain ⟨e2, he2⟩ : ∃ e2 : Int, e2 = litErr a0_0 l1 12 := ⟨_, rfl⟩
  obtain ⟨e3, he3⟩ : ∃ e3 : Int, e3 = if 0 ≤ a2 ∧ a2 ≤ 20000 then 0 else 2 := ⟨_, rfl⟩
  have hU : followsErr a0_0 l0_1 l1 a2 = if e1 = 0 then (if e2 = 0 then e3 else e2) else e1 := by unfold followsErr; rw [he1, he2, he3]
  unfold followsFrom at hE
  rw [hU] at hE
  have E1 := Ak he1; have E2 := Ak he2; have E3 := Ak he3; have HE := Ak hE
  have HR := Ak hr0_1; have HR1 := Ak hr1
  have HU3 : Aside0 (cnf_fuelErr.f a2 = some e3) := ⟨by rw [fuelErr_f, he3]⟩
  have H0 := Ak ((St.start w).box_new 24 #[.int .i64 a0_0, .slice A0_1 l0_1.length c0_1])
  clear he1 he2 he3 hU hE hr0_1 hr1
  have hu24 := Try.underlying24
  go_enter Try.func19, Try.ntmps19
  go_upto_region 1 with fail
  generalize hgf : w.heap.size = gf at H0 ⊢
  generalize World.alloc _ _ = w1 at H0 ⊢
  subst hgf
  have q0 := H0.out.box_cell (i := 0) rfl 0
  have q1 := H0.out.box_cell (i := 0) rfl 1
  simp only [List.getElem?_toArray, List.getElem?_cons_zero, List.getElem?_cons_succ] at q0 q1
  go_wp2_with fail
  with_reducible refine (cnf_formulaErr.calls a0_0 A0_1 c0_1 l0_1 e1 _ (Kd.C_below HR.out H0.out.below) hc0_1 (by rw [formulaErr_f, E1.out])).mono ?_
  clear q0 q1
  rintro e w2 ⟨rfl, hb⟩
  have H1 := Ak (H0.out.mv hb); clear hb H0
  by_cases h1 : e1 = 0
  · have h10 : (e1 == 0) = true := by simp [h1]
    have hx := HE.out; rw [if_pos h1] at hx
    have HX := Ak hx; have H10 := Ak h1; clear hx h1 HE
    have q0 := H1.out.box_cell (i := 0) rfl 0
    have q1 := H1.out.box_cell (i := 0) rfl 1
    simp only [List.getElem?_toArray, List.getElem?_cons_zero, List.getElem?_cons_succ] at q0 q1
    go_wp2_with fail
    with_reducible refine (cnf_clauseErr.calls a0_0 A0_1 c0_1 l0_1 A1 c1 l1 e2 _ (Kd.C_below HR.out H1.out.below) hc0_1 (Kd.C_below HR1.out H1.out.below) hc1 (by rw [E2.out]; unfold cnf_clauseErr.f cnf_literalsErr.f; simp)).mono ?_
    clear q0 q1
    rintro e w3 ⟨rfl, hb⟩
    have H2 := Ak (H1.out.mv hb); clear hb H1
    go_wp2_with fail
    with_reducible refine (cnf_fuelErr.calls a2 e3 _ HU3.out).mono ?_
    rintro e w4 ⟨rfl, hb⟩
    have H3 := Ak (H2.out.mv hb.below); clear hb H2
    go_wp2_with fail
    have H4 := Ak (H3.out.box_new 28 #[.int .i64 e2, .int .i64 e3]); clear H3
    generalize w4.heap.size = gq at H4 ⊢
    generalize World.alloc _ _ = w5 at H4 ⊢
    generalize her : (if e2 = 0 then e3 else e2) = er at HX
    have HER := Ak her; clear her
    have hf := cnf_first.calls 3 _ 2 [e2, e3] er _ (C_of_block (k := .i64) (H4.out.box_at (i := 0) rfl).1 (by simp)) (by simp) (by rw [first2, HER.out])
    rw [show ([e2, e3] : List Int).length = 2 from rfl] at hf
    have HF := Ak hf; clear hf
    with_reducible refine (HF.out).mono ?_
    clear HF
    rintro e w6 ⟨rfl, hb⟩
    have H5 := Ak ((H4.out.mv hb.below).drop 0); clear hb H4
    simp only [List.eraseIdx] at H5
    by_cases he : er = 0
    · have he0 : (er != 0) = false := bne_eq_false_iff_eq.2 he
      have hx := HX.out; rw [if_pos he] at hx
      have h2 : e2 = 0 := by
        have := HER.out; rw [he] at this
        by_cases h : e2 = 0
        · exact h
        · rw [if_neg h] at this; exact this
      have h3 : 0 ≤ a2 ∧ a2 ≤ 20000 := by
        have := HER.out; rw [he, if_pos h2, E3.out] at this
        by_cases h : 0 ≤ a2 ∧ a2 ≤ 20000
        · exact h
        · rw [if_neg h] at this; cases this
      obtain ⟨g1, g2, g3, g4, g5, g6⟩ := against_sv (fuel := a2) (L := l0_1) (C := l1) (by rw [← E1.out]; exact H10.out) (by rw [← E2.out]; exact h2)
      have hL : l0_1.length ≤ 5000 := by unfold against at g2; simp at g2; omega
      have HX2 := Ak hx; have G1 := Ak g1; have G2 := Ak g2; have G3 := Ak g3
      clear he hx HX HER h2 g1 g2 g3
      have q1 := H5.out.box_cell (i := 0) rfl 1
      simp only [List.getElem?_toArray, List.getElem?_cons_zero, List.getElem?_cons_succ] at q1
      go_wp2_with fail
      with_reducible refine (clone50 A0_1 c0_1 l0_1 w _ HR.out H5.out.below hc0_1 (by omega)).mono ?_
      clear q1
      rintro e w7 ⟨v7, rfl, hR, hb⟩
      have H6 := Ak (H5.out.row_new hb hR); clear hb hR H5
      obtain ⟨A7, c7, rfl, hc7, _⟩ := H6.out.row_reads (i := 0) rfl
      have hi25 : (Try.prog.info? 25).map (fun i => (i.zero, i.size, i.bytes)) = some (some (.slice none 0 0), 1, 24) := by kernel_rfl
      have HI25 := Ak hi25; clear hi25
      go_wp2
      go_loopg [9, 35] l1.length (fun kq v9 v35 wr => ∃ (i : Nat) (o : List (List Int)), v35 = .int .i64 (i : Int) ∧ Aside0 (i + kq = l1.length) ∧ Aside0 (o ++ (l1.drop i).map (fun n => [wrap64 (-n)]) = against l0_1 l1) ∧ Aside0 (o.length ≤ 5000 + i) ∧ Aside0 (St w wr [row w.heap.size (MX w) 25 v9 o, box w.heap.size 24 #[.int .i64 a0_0, .slice A0_1 l0_1.length c0_1]]))
      case atStart => exact ⟨0, l0_1, rfl, ⟨by omega⟩, ⟨by rw [List.drop_zero]; rfl⟩, ⟨by omega⟩, H6⟩
      case round =>
        obtain ⟨i, o, rfl, HI, HF, HO, H7⟩ := hrel
        clear H6
        by_cases hi : i < l1.length
        · have hi0 : (0 : Int) ≤ (i : Int) := by omega
          have hi1 : (i : Int) < (l1.length : Int) := by omega
          obtain ⟨ad, rfl, hx⟩ := Kd.at_int (Kd.C_below HR1.out H7.out.below) (i : Int) hi0 hi1
          rw [Int.toNat_natCast] at hx
          have hd : l1.drop i = rd l1 (i : Int) :: l1.drop (i + 1) := by rw [List.drop_eq_getElem_cons hi]; simp [rd, hi]
          have hf := HF.out; rw [hd, List.map_cons] at hf
          generalize rd l1 (i : Int) = n at hx hf
          have HF2 := Ak hf; clear hf hd HF
          obtain ⟨A9, c9, rfl, hc9, _⟩ := H7.out.row_reads (i := 0) rfl
          have h8 := H7.out.box_new 3 #[.int .i64 (wrap64 (-n))]
          have H8 := Ak ((box_row h8).front (i := 1) rfl); clear h8
          simp only [List.eraseIdx] at H8
          have hbd : (o.length + 1) * 24 ≤ 140737488355328 := by have := HO.out; have := HI.out; omega
          have HBD := Ak hbd; clear hbd
          go_wp2_with (at_builtin; refine st_append_rows (wm := w) (xs := o) (y := [wrap64 (-n)]) H8.out rfl (.tmp 39) (.tmp 43) 22 24 rfl Try.underlying22 HI25.out (by decide) rfl (Eq.trans (b := .slice (some ⟨wr.heap.size + 1, 0, none⟩) 1 1) rfl (by simp)) HBD.out ?_; intro v9 w9 hs9; have H9 := Ak (rowU_row hs9); clear hs9 H8)
          go_roundg (gk - 1)
          case measure => have := HI.out; omega
          case rel => exact ⟨i + 1, o ++ [[wrap64 (-n)]], by go_num, ⟨by have := HI.out; omega⟩, ⟨by rw [List.append_assoc]; exact HF2.out⟩, ⟨by have := HO.out; simp; omega⟩, H9⟩
        · have hi1 : ¬ (i : Int) < (l1.length : Int) := by omega
          have hf := HF.out; rw [List.drop_of_length_le (by omega), List.map_nil, List.append_nil] at hf
          subst hf
          clear HF HI HO hi
          obtain ⟨A9, c9, rfl, hc9, hC9⟩ := H7.out.row_reads (i := 0) rfl
          have HC9 := Ak (MX_reads hC9 H7.out.below); clear hC9
          have q0 := H7.out.box_cell (i := 1) rfl 0
          simp only [List.getElem?_toArray, List.getElem?_cons_zero, List.getElem?_cons_succ] at q0
          go_wp2_with fail
          with_reducible refine (newSolver51 a0_0 a2 A9 c9 (against l0_1 l1) _ HC9.out hc9 (by have := G2.out; omega) G3.out ⟨g4, g5⟩).mono ?_
          clear q0
          rintro e w8 ⟨g, fx, rfl, hw0, hS, hfx⟩
          have hs0 : fx.Ok (newSv a0_0 (against l0_1 l1) a2).cl (newSv a0_0 (against l0_1 l1) a2).occ := hfx
          have hf0 : (newSv a0_0 (against l0_1 l1) a2).failed = false := rfl
          have hst : (newSv a0_0 (against l0_1 l1) a2).steps = 0 := rfl
          have hfu : (newSv a0_0 (against l0_1 l1) a2).fuel = a2 := rfl
          have G1 := G1.out
          have hx := HX2.out
          clear HX2 HC9
          generalize newSv a0_0 (against l0_1 l1) a2 = s0 at hS hs0 hf0 hst hfu G1 hx
          have HS := Ak hS; have HFX := Ak hs0; have HOK := Ak G1
          have HB1 := Ak H7.out.below
          subst hw0
          clear hS hs0 G1 hfx H7
          go_wp2_with fail
          with_reducible refine (solve52 s0 fx g _ [] HS.out HOK.out HFX.out hf0 ⟨by omega, by omega, by omega⟩).mono ?_
          rintro e w9 ⟨c, rfl, hS⟩
          have hB : Aside0 (Below w.heap.size w w9) := by obtain ⟨_, _, _, h⟩ := hS; exact ⟨below_step HB1.out h.below⟩
          generalize s0.solve = sv at hS hx
          obtain ⟨fnd, sv2⟩ := sv
          dsimp only at hS hx
          obtain ⟨vV, tV, rV, hS'⟩ := hS
          simp only [SvL, List.cons_append, List.nil_append] at hS'
          have c11 := hS'.box_cell (i := 0) rfl 11
          simp only [List.getElem?_toArray, List.getElem?_cons_zero, List.getElem?_cons_succ] at c11
          have hu82 := Try.underlying82
          clear hS' HS hst hfu hf0
          cases hfl : sv2.failed with
          | true =>
            rw [hfl] at c11 hx
            rw [if_pos rfl] at hx
            obtain ⟨x1, x2⟩ := Prod.mk.inj hx
            subst x1; subst x2
            clear hx hfl
            go_wp2
            go_ret2
            exact ⟨rfl, hB.out⟩
          | false =>
            rw [hfl] at c11 hx
            rw [if_neg (by decide)] at hx
            obtain ⟨x1, x2⟩ := Prod.mk.inj hx
            subst x1; subst x2
            clear hx hfl
            go_wp2
            go_ret2
            exact ⟨rfl, hB.out⟩
    · have he0 : (er != 0) = true := bne_iff_ne.2 he
      have hx := HX.out; rw [if_neg he] at hx
      obtain ⟨x1, x2⟩ := Prod.mk.inj hx
      subst x1; subst x2
      clear he hx
      go_wp2
      go_ret2
      exact ⟨rfl, H5.out.below⟩
  · have h10 : (e1 == 0) = false := by simp [h1]
    have hx := HE.out; rw [if_neg h1, if_neg h1] at hx
    obtain ⟨x1, x2⟩ := Prod.mk.inj hx
    subst x1; subst x2
    have hne : (e1 != 0) = true := bne_iff_ne.2 h1
    have H1N := Ak h1
    clear hx h1 HE
    go_wp2_with fail
    with_reducible refine (cnf_fuelErr.calls a2 e3 _ HU3.out).mono ?_
    rintro e w4 ⟨rfl, hb⟩
    have H3 := Ak (H1.out.mv hb.below); clear hb H1
    go_wp2_with fail
    have H4 := Ak (H3.out.box_new 28 #[.int .i64 e1, .int .i64 e3]); clear H3
    generalize w4.heap.size = gq at H4 ⊢
    generalize World.alloc _ _ = w5 at H4 ⊢
    have hf := cnf_first.calls 3 _ 2 [e1, e3] e1 _ (C_of_block (k := .i64) (H4.out.box_at (i := 0) rfl).1 (by simp)) (by simp) (by rw [first2, if_neg H1N.out])
    rw [show ([e1, e3] : List Int).length = 2 from rfl] at hf
    have HF := Ak hf; clear hf
    with_reducible refine (HF.out).mono ?_
    clear HF
    rintro e w6 ⟨rfl, hb⟩
    have H5 := Ak (H4.out.mv hb.below); clear hb H4
    go_wp2
    go_ret2
    exact ⟨rfl, H5.out.below⟩
def ratchetref03_given.l0 : Nat → List Int → List Int → Int → Option (List Int)
  | 0, _, _, _ => none
  | k + 1, x1, x5, x6 => if x6 < (x1.length : Int) then (if 0 ≤ x6 then ((ratchetbase_Size.f (rd x1 x6)).bind fun t318 => (if 0 ≤ t318 then (if t318 < (x5.length : Int) then ((some (x5.set (t318 : Int).toNat 1 : List Int)).bind fun y319 => (if (rd x1 x6) < 0 then (if 0 ≤ (wrap64 (-(rd x1 x6))) then (if (wrap64 (-(rd x1 x6))) < (x5.length : Int) then (ratchetref03_given.l0 k x1 (y319.set ((wrap64 (-(rd x1 x6))) : Int).toNat (-1)) (wrap64 (x6 + 1))) else (none)) else (none)) else (ratchetref03_given.l0 k x1 y319 (wrap64 (x6 + 1))))) else (none)) else (none))) else (none)) else (some x5)
def ratchetref03_given.f (k : Nat) (a0_0 : Int) (l0_1 : List (List Int)) (l1 : List Int) : Option (List Int) := if 0 ≤ (wrap64 (a0_0 + 1)) then (if (wrap64 (a0_0 + 1) : Int).toNat ≤ 35184372088832 then (ratchetref03_given.l0 k l1 (List.replicate (wrap64 (a0_0 + 1) : Int).toNat 0) 0) else (none)) else (none)
theorem ratchetref03_given.mono_l : ∀ k, (∀ y0 y1 y2, LeO (ratchetref03_given.l0 k y0 y1 y2) (ratchetref03_given.l0 (k + 1) y0 y1 y2))
  | 0 => fun _ _ _ r h => by simp [ratchetref03_given.l0] at h
  | k + 1 => by
    have ih0 := ratchetref03_given.mono_l k
    · intro y0 y1 y2
      unfold ratchetref03_given.l0
      repeat' first
      | (with_reducible exact ih0 _ _ _)
      | (with_reducible exact LeO.refl _)
      | (with_reducible exact LeO.none _)
      | (with_reducible refine LeO.ite ?_ ?_)
      | (with_reducible refine LeO.bind ?_ (fun _ => ?_))
      | exact ih0 _ _ _
      | exact LeO.none _
      | refine LeO.ite ?_ ?_
      | refine LeO.bind ?_ (fun _ => ?_)
theorem ratchetref03_given.mono : ∀ a0 a1 a2 k, LeO (ratchetref03_given.f k a0 a1 a2) (ratchetref03_given.f (k + 1) a0 a1 a2) := by
  intro a0 a1 a2 k
  have ih0 := ratchetref03_given.mono_l k
  unfold ratchetref03_given.f
  repeat' first
      | (with_reducible exact ih0 _ _ _)
      | (with_reducible exact LeO.refl _)
      | (with_reducible exact LeO.none _)
      | (with_reducible refine LeO.ite ?_ ?_)
      | (with_reducible refine LeO.bind ?_ (fun _ => ?_))
      | exact ih0 _ _ _
      | exact LeO.none _
      | refine LeO.ite ?_ ?_
      | refine LeO.bind ?_ (fun _ => ?_)
set_option maxHeartbeats 8000000 in
set_option maxRecDepth 100000 in
theorem ratchetref03_given.calls (k : Nat) (a0_0 : Int) (A0_1 : Option Addr) (c0_1 : Nat) (l0_1 : List (List Int)) (A1 : Option Addr) (c1 : Nat) (l1 : List Int) (r : List Int) (w : World) (hr0_1 : Kd.C (Kd.slice 3 (Kd.int .i64)) w A0_1 l0_1.length l0_1) (hc0_1 : l0_1.length ≤ c0_1) (hr1 : Kd.C (Kd.int .i64) w A1 l1.length l1) (hc1 : l1.length ≤ c1) (h : ratchetref03_given.f k a0_0 l0_1 l1 = some r) :
    Calls Try.prog 73 #[.agg #[.int .i64 a0_0, .slice A0_1 l0_1.length c0_1], .slice A1 l1.length c1] w fun e w' => ∃ v0_ : Value, e = .returned (v0_) ∧ Kd.R (Kd.int .i64) 3 w' w.heap.size (fun _ => True) v0_ r ∧ Below w.heap.size w w' := by
  have hu24 := Try.underlying24
  have HR0_1 := Ak hr0_1
  have HC0_1 := Ak hc0_1
  clear hr0_1 hc0_1
  have HR1 := Ak hr1
  have HC1 := Ak hc1
  clear hr1 hc1
  have HB := Ak (Below.refl w.heap.size w)
  have H : (if 0 ≤ (wrap64 (a0_0 + 1)) then (if (wrap64 (a0_0 + 1) : Int).toNat ≤ 35184372088832 then (ratchetref03_given.l0 k l1 (List.replicate (wrap64 (a0_0 + 1) : Int).toNat 0) 0) else (none)) else (none)) = some r := h
  clear h
  obtain ⟨ji3, hji3⟩ : ∃ j_ : Int, (wrap64 (a0_0 + 1)) = j_ := ⟨_, rfl⟩
  replace H : (if 0 ≤ (ji3) then (if (ji3 : Int).toNat ≤ 35184372088832 then (ratchetref03_given.l0 k l1 (List.replicate (ji3 : Int).toNat 0) 0) else (none)) else (none)) = some r := by first | (rw [hji3] at H; exact H) | (simp only [hji3] at H ⊢; exact H)
  have hji3w : (IntKind.i64.wrap (a0_0 + 1)) = ji3 := (i64_w _).trans hji3
  by_cases c4 : 0 ≤ (ji3)
  · rw [if_pos c4] at H
    have c4b0 := eq_true c4
    have c4b1 : decide (0 ≤ (ji3)) = true := decide_eq_true c4
    clear c4
    by_cases c5 : (ji3 : Int).toNat ≤ 35184372088832
    · rw [if_pos c5] at H
      have c5b0 := eq_true c5
      have c5b1 : decide ((ji3 : Int).toNat ≤ 35184372088832) = true := decide_eq_true c5
      clear c5
      obtain ⟨y314, hy314⟩ : ∃ y_ : List Int, y_ = (List.replicate (ji3 : Int).toNat 0) := ⟨_, rfl⟩
      replace H : (ratchetref03_given.l0 k l1 y314 0) = some r := by first | (rw [hy314]; with_reducible exact H) | (have H2_ := (Option.bind_some _ _).symm.trans H; rw [hy314]; with_reducible exact H2_) | (have H2_ := (Option.bind_some _ _).symm.trans H; with_reducible exact H2_) | with_reducible exact H | (rw [hy314]; exact H) | exact H
      have Ny314 := Ak hy314
      clear hy314
      have H' := Ak H
      clear H
      go_enter Try.func73, Try.ntmps73
      go_wp2_with (first | ((with_reducible refine gate_dst (N := 2) rfl ?_); refine box_event ?hg (N := 2) ?hd (cs := #[.int .i64 a0_0, .slice A0_1 l0_1.length c0_1]) (t := 24) ?hr ?_; (case hd => rfl); (case hg => rfl); (case hr => first | (go_simp; done) | (go_simp; rfl)); intro gb313 hg w6 hbox hb; have n0_ := Ak (below_step (by repeat (first | (with_reducible first | exact HB.out | apply below_alloc | apply pw_below_drewN | apply below_drew1) | exact HB.out)) hb); have n1_ := Ak (hbox); have n2_ := Ak ((by rw [hg]; exact (below_size (by repeat (first | (with_reducible first | exact HB.out | apply below_alloc | apply pw_below_drewN | apply below_drew1) | exact HB.out))) : w.heap.size ≤ gb313)); have n3_ := Ak ((by rw [hg]; exact (below_size (by repeat (first | (with_reducible first | exact HB.out | apply below_alloc | apply pw_below_drewN | apply below_drew1) | exact HB.out))) : w.heap.size ≤ gb313)); clear HB; have HB := n0_; have BK313 := n1_; have GW313 := n2_; have GE313 := n3_; clear n0_ n1_ n2_ n3_; clear hb hbox hg; have hcz7_0 : w6.cell? ⟨gb313, 0, none⟩ = some (.int .i64 a0_0) := (blk_cell BK313.out 0).trans rfl; have hcz7_1 : w6.cell? ⟨gb313, 1, none⟩ = some (.slice A0_1 l0_1.length c0_1) := (blk_cell BK313.out 1).trans rfl; have hfz7_0 := blk_frozen BK313.out 0; have hfz7_1 := blk_frozen BK313.out 1) | ((with_reducible refine gate_dst (N := 10) rfl ?_); refine Kd.R_make (Kd.int .i64) _ 3 rfl (N := 10) rfl 25 _ _ rfl ji3 rfl rfl Try.underlying25 (.int .i64 0) 8 info3 rfl (by decide) (by omega) 0 (ok := fun _ => True) (okp := fun _ => True) rfl (fun _ hk => hk) trivial (of_decide_eq_true (by first | (with_reducible assumption) | assumption)) (Nat.le_trans (Nat.mul_le_mul_right _ (of_decide_eq_true (by first | (with_reducible assumption) | assumption) : ji3.toNat ≤ 35184372088832)) (by omega)) (Below.refl _ _) (Nat.le_refl _) ?_; intro v315 w8 ho9 hb hg_ hnew_; clear hg_ hnew_; (first | rw [← Ny314.out] at ho9 | (simp only [Int.reduceToNat] at ho9; rw [← Ny314.out] at ho9)); have n0_ := Ak (Kd.R_lower ho9 (below_size (by repeat (first | (with_reducible first | exact HB.out | apply below_alloc | apply pw_below_drewN | apply below_drew1 | refine below_set ?_ GE313.out) | exact HB.out)))); have n1_ := Ak (blk_below (g := gb313) (o := .cells #[.int .i64 a0_0, .slice A0_1 l0_1.length c0_1] 24 (0, 0)) (by (with_reducible repeat (first | refine blk_drewN ?_ _ | refine blk_drew ?_ | refine blk_alloc ?_ _)); exact BK313.out) hb); have n2_ := Ak (below_step (by repeat (first | (with_reducible first | exact HB.out | apply below_alloc | apply pw_below_drewN | apply below_drew1 | refine below_set ?_ GE313.out) | exact HB.out)) hb); clear BK313; clear HB; have HO316 := n0_; have BK313 := n1_; have HB := n2_; clear n0_ n1_ n2_; clear hb ho9))
      go_loopg [6] k (fun kq v6 w' => ∃ (x5_1 : List Int) (x6_1 : Int), v6 = .int .i64 x6_1 ∧ Aside0 (ratchetref03_given.l0 kq l1 x5_1 x6_1 = some r) ∧ Aside0 (kq ≤ k) ∧ Aside0 (Kd.R (Kd.int .i64) 3 w' w.heap.size (fun _ => True) v315 x5_1) ∧ Aside0 (w'.heap[gb313]? = some (.cells #[.int .i64 a0_0, (.slice A0_1 l0_1.length c0_1)] 24 (0, 0))) ∧ Aside0 (Below w.heap.size w w'))
      case atStart => exact ⟨(y314), (0), (by first | rfl | (simp; done) | (simp [*]; done)), H', ⟨Nat.le_refl _⟩, ⟨by (with_reducible repeat (first | apply Kd.R_alloc | apply Kd.R_drewN | apply Kd.R_drew)); exact HO316.out⟩, ⟨by (with_reducible repeat (first | refine blk_drewN ?_ _ | refine blk_drew ?_ | refine blk_alloc ?_ _)); exact BK313.out⟩, ⟨by repeat (first | (with_reducible first | exact HB.out | apply below_alloc | apply pw_below_drewN | apply below_drew1 | refine below_set ?_ GE313.out) | exact HB.out)⟩⟩
      case round =>
        clear H'
        try clear c1
        try clear p2
        try clear c4
        try clear c4b0
        try clear c4b1
        try clear c5
        try clear c5b0
        try clear c5b1
        try clear p6
        try clear c7
        try clear hcz7_0
        try clear hcz7_1
        try clear hfz7_0
        try clear hfz7_1
        obtain ⟨x5_1, x6_1, rfl, HA, HK1, HO_5, BK313, HB⟩ := hrel
        cases gk with
        | zero => exact absurd HA.out (by simp [ratchetref03_given.l0])
        | succ k1 =>
          have H := HA.out
          clear HA
          simp only [ratchetref03_given.l0] at H
          by_cases c10 : x6_1 < (l1.length : Int)
          · rw [if_pos c10] at H
            have c10b0 : decide (x6_1 < (l1.length : Int)) = true := decide_eq_true c10
            clear c10
            by_cases c11 : 0 ≤ x6_1
            · rw [if_pos c11] at H
              have c11b0 : decide (0 ≤ x6_1) = true := decide_eq_true c11
              clear c11
              replace H := Option.bind_eq_some_iff.mp H
              obtain ⟨t318, A120, H⟩ := H
              replace H : (if 0 ≤ t318 then (if t318 < (x5_1.length : Int) then ((some (x5_1.set (t318 : Int).toNat 1 : List Int)).bind fun y319 => (if (rd l1 x6_1) < 0 then (if 0 ≤ (wrap64 (-(rd l1 x6_1))) then (if (wrap64 (-(rd l1 x6_1))) < (x5_1.length : Int) then (ratchetref03_given.l0 k1 l1 (y319.set ((wrap64 (-(rd l1 x6_1))) : Int).toNat (-1)) (wrap64 (x6_1 + 1))) else (none)) else (none)) else (ratchetref03_given.l0 k1 l1 y319 (wrap64 (x6_1 + 1))))) else (none)) else (none)) = some r := H
              have A12 := Ak A120
              clear A120
              by_cases c13 : 0 ≤ t318
              · rw [if_pos c13] at H
                have c13b0 : decide (0 ≤ t318) = true := decide_eq_true c13
                clear c13
                by_cases c14 : t318 < (x5_1.length : Int)
                · rw [if_pos c14] at H
                  have c14b0 : decide (t318 < (x5_1.length : Int)) = true := decide_eq_true c14
                  clear c14
                  obtain ⟨y319, hy319⟩ : ∃ y_ : List Int, y_ = (x5_1.set (t318 : Int).toNat 1) := ⟨_, rfl⟩
                  replace H : (if (rd l1 x6_1) < 0 then (if 0 ≤ (wrap64 (-(rd l1 x6_1))) then (if (wrap64 (-(rd l1 x6_1))) < (x5_1.length : Int) then (ratchetref03_given.l0 k1 l1 (y319.set ((wrap64 (-(rd l1 x6_1))) : Int).toNat (-1)) (wrap64 (x6_1 + 1))) else (none)) else (none)) else (ratchetref03_given.l0 k1 l1 y319 (wrap64 (x6_1 + 1)))) = some r := by first | (rw [hy319]; with_reducible exact H) | (have H2_ := (Option.bind_some _ _).symm.trans H; rw [hy319]; with_reducible exact H2_) | (have H2_ := (Option.bind_some _ _).symm.trans H; with_reducible exact H2_) | with_reducible exact H | (rw [hy319]; exact H) | exact H
                  have Ny319 := Ak hy319
                  clear hy319
                  by_cases c16 : (rd l1 x6_1) < 0
                  · rw [if_pos c16] at H
                    have c16b0 : decide ((rd l1 x6_1) < 0) = true := decide_eq_true c16
                    clear c16
                    obtain ⟨ji17, hji17⟩ : ∃ j_ : Int, (wrap64 (-(rd l1 x6_1))) = j_ := ⟨_, rfl⟩
                    replace H : (if 0 ≤ (ji17) then (if (ji17) < (x5_1.length : Int) then (ratchetref03_given.l0 k1 l1 (y319.set ((ji17) : Int).toNat (-1)) (wrap64 (x6_1 + 1))) else (none)) else (none)) = some r := by first | (rw [hji17] at H; exact H) | (simp only [hji17] at H ⊢; exact H)
                    (try rw [hji17] at A12)
                    have hji17w : (IntKind.i64.wrap (-(rd l1 x6_1))) = ji17 := (i64_w _).trans hji17
                    by_cases c18 : 0 ≤ (ji17)
                    · rw [if_pos c18] at H
                      have c18b0 : decide (0 ≤ (ji17)) = true := decide_eq_true c18
                      clear c18
                      by_cases c19 : (ji17) < (x5_1.length : Int)
                      · rw [if_pos c19] at H
                        have c19b0 : decide ((ji17) < (x5_1.length : Int)) = true := decide_eq_true c19
                        clear c19
                        obtain ⟨y322, hy322⟩ : ∃ y_ : List Int, y_ = (y319.set ((ji17) : Int).toNat (-1)) := ⟨_, rfl⟩
                        replace H : (ratchetref03_given.l0 k1 l1 y322 (wrap64 (x6_1 + 1))) = some r := by first | (rw [hy322]; with_reducible exact H) | (have H2_ := (Option.bind_some _ _).symm.trans H; rw [hy322]; with_reducible exact H2_) | (have H2_ := (Option.bind_some _ _).symm.trans H; with_reducible exact H2_) | with_reducible exact H | (rw [hy322]; exact H) | exact H
                        have Ny322 := Ak hy322
                        clear hy322
                        have H' := Ak H
                        clear H
                        have p317 : 0 ≤ (x6_1 : Int) := of_decide_eq_true (by first | (with_reducible assumption) | assumption)
                        have q317 : x6_1 < (l1.length : Int) := of_decide_eq_true (by first | (with_reducible assumption) | assumption)
                        obtain ⟨ad317, e317, hx317_0⟩ := Kd.at_int HR1.out x6_1 p317 q317
                        cases e317
                        replace hx317_0 := (HB.out.cell (World.block_lt_of_cell? w _ hx317_0)).trans hx317_0
                        replace p317 := eq_true p317
                        replace q317 := eq_true q317
                        go_wp2_with (first | ((with_reducible refine gate_callee (f := 71) rfl ?_); refine goesL_ (some 22) rfl rfl Try.func71 (by kernel_rfl) rfl #[.int .i64 (rd l1 x6_1)] rfl (by (try simp only [List.map_toArray, List.map_cons, List.map_nil]); first | done | rfl | (simp only [List.length_drop, List.length_take]; rfl)) ?_; (with_reducible refine (ratchetbase_Size.calls (rd l1 x6_1) t318 _ A12.out).mono ?_); rintro e w21 ⟨rfl, hb⟩; refine ⟨_, rfl, ?_⟩; have n0_ := Ak (Kd.R_below (by (with_reducible repeat (first | apply Kd.R_alloc | apply Kd.R_drewN | apply Kd.R_drew)); exact HO_5.out) hb); have n1_ := Ak (blk_below (g := gb313) (o := .cells #[.int .i64 a0_0, .slice A0_1 l0_1.length c0_1] 24 (0, 0)) (by (with_reducible repeat (first | refine blk_drewN ?_ _ | refine blk_drew ?_ | refine blk_alloc ?_ _)); exact BK313.out) hb); have n2_ := Ak (below_step (by repeat (first | (with_reducible first | exact HB.out | apply below_alloc | apply pw_below_drewN | apply below_drew1 | refine below_set ?_ GE313.out) | exact HB.out)) hb); clear HO_5; clear BK313; clear HB; have HO_5 := n0_; have BK313 := n1_; have HB := n2_; clear n0_ n1_ n2_; (try clear hb); (try clear hb2); (try clear hk); (try clear hi); have p15 : 0 ≤ (t318 : Int) := of_decide_eq_true (by first | (with_reducible assumption) | assumption); have q15 : (t318 : Int) < ((x5_1.length : Int) : Int) := of_decide_eq_true (by first | (with_reducible assumption) | assumption); obtain ⟨go15, co15, eo15, gb15, gl15, cl15, HG15⟩ := Kd.R_form HO_5.out (by omega); (first | cases eo15 | (injection eo15 with ea_ en_ ec_; (first | subst ea_ | (injection ea_ with ea_; subst ea_)); subst ec_; clear en_)); have GB15 := Ak gb15; have GG15 := Ak HG15; clear gb15 gl15 HG15; obtain ⟨hx15_0, hf15_0⟩ := Kd.R_celln 0 HO_5.out (t318 : Int) p15 q15; replace p15 := eq_true p15; replace q15 := eq_true q15; obtain ⟨hy22_, hz22_⟩ := Kd.R_celln 0 HO_5.out (t318 : Int) (of_decide_eq_true (by first | (with_reducible assumption) | assumption)) (of_decide_eq_true (by first | (with_reducible assumption) | assumption)); have HP22 := Kd.R_putg HO_5.out (t318 : Int) 1) | ((with_reducible refine gate_store (t := 3) (p := 23) rfl ?_); refine store_event (t := 3) (p := 23) (v := ?vo_w23) (w1 := (w21.setCell ⟨go15, (t318 : Int).toNat, none⟩ (.int .i64 1))) ?hg ?ho ?hn ?hr ?_; (case ho => rfl); (case hg => rfl); (case hn => rfl); (case hr => first | (go_simp; done) | (go_simp; rfl)); intro w23 hw; have hg : w21.grownBy w23 (some go15) := (by rw [hw]; exact HP22.2); have hp_ : Kd.R (Kd.int .i64) 3 w23 w.heap.size (fun _ => True) (.slice (some ⟨go15, 0, none⟩) x5_1.length co15) y319 := (by rw [hw, Ny319.out]; exact HP22.1); clear HP22; have n0_ := Ak (hp_); have n1_ := Ak (blk_grown (g := gb313) (o := .cells #[.int .i64 a0_0, .slice A0_1 l0_1.length c0_1] 24 (0, 0)) (by (with_reducible repeat (first | refine blk_drewN ?_ _ | refine blk_drew ?_ | refine blk_alloc ?_ _)); exact BK313.out) hg (Kd.R_ne HO_5.out BK313.out (by decide))); have n2_ := Ak ((by rw [hw]; exact below_set (HB.out) GB15.out : Below w.heap.size w w23)); clear HO_5; clear BK313; clear HB; have HO_5 := n0_; have BK313 := n1_; have HB := n2_; clear n0_ n1_ n2_; clear hg hw hp_; have p320 : 0 ≤ (x6_1 : Int) := of_decide_eq_true (by first | (with_reducible assumption) | assumption); have q320 : x6_1 < (l1.length : Int) := of_decide_eq_true (by first | (with_reducible assumption) | assumption); obtain ⟨ad320, e320, hx320_0⟩ := Kd.at_int HR1.out x6_1 p320 q320; obtain rfl : ad317 = ad320 := (by injection e320); replace hx320_0 := (HB.out.cell (World.block_lt_of_cell? w _ hx320_0)).trans hx320_0; replace p320 := eq_true p320; replace q320 := eq_true q320; have p321 : 0 ≤ (x6_1 : Int) := of_decide_eq_true (by first | (with_reducible assumption) | assumption); have q321 : x6_1 < (l1.length : Int) := of_decide_eq_true (by first | (with_reducible assumption) | assumption); obtain ⟨ad321, e321, hx321_0⟩ := Kd.at_int HR1.out x6_1 p321 q321; obtain rfl : ad317 = ad321 := (by injection e321); replace hx321_0 := (HB.out.cell (World.block_lt_of_cell? w _ hx321_0)).trans hx321_0; replace p321 := eq_true p321; replace q321 := eq_true q321; have p20 : 0 ≤ ((ji17) : Int) := of_decide_eq_true (by first | (with_reducible assumption) | assumption); have q20 : ((ji17) : Int) < ((x5_1.length : Int) : Int) := of_decide_eq_true (by first | (with_reducible assumption) | assumption); obtain ⟨hx20_0, hf20_0⟩ := Kd.R_celln 0 HO_5.out ((ji17) : Int) p20 q20; replace p20 := eq_true p20; replace q20 := eq_true q20; obtain ⟨hy24_, hz24_⟩ := Kd.R_celln 0 HO_5.out ((ji17) : Int) (of_decide_eq_true (by first | (with_reducible assumption) | assumption)) (of_decide_eq_true (by first | (with_reducible assumption) | assumption)); have HP24 := Kd.R_putg HO_5.out ((ji17) : Int) (-1)) | ((with_reducible refine gate_store (t := 3) (p := 35) rfl ?_); refine store_event (t := 3) (p := 35) (v := ?vo_w25) (w1 := (w23.setCell ⟨go15, ((ji17) : Int).toNat, none⟩ (.int .i64 (-1)))) ?hg ?ho ?hn ?hr ?_; (case ho => rfl); (case hg => rfl); (case hn => rfl); (case hr => first | (go_simp; done) | (go_simp; rfl)); intro w25 hw; have hg : w23.grownBy w25 (some go15) := (by rw [hw]; exact HP24.2); have hp_ : Kd.R (Kd.int .i64) 3 w25 w.heap.size (fun _ => True) (.slice (some ⟨go15, 0, none⟩) x5_1.length co15) y322 := (by rw [hw, Ny322.out]; exact HP24.1); clear HP24; have n0_ := Ak (hp_); have n1_ := Ak (blk_grown (g := gb313) (o := .cells #[.int .i64 a0_0, .slice A0_1 l0_1.length c0_1] 24 (0, 0)) (by (with_reducible repeat (first | refine blk_drewN ?_ _ | refine blk_drew ?_ | refine blk_alloc ?_ _)); exact BK313.out) hg (Kd.R_ne HO_5.out BK313.out (by decide))); have n2_ := Ak ((by rw [hw]; exact below_set (HB.out) GB15.out : Below w.heap.size w w25)); clear HO_5; clear BK313; clear HB; have HO_5 := n0_; have BK313 := n1_; have HB := n2_; clear n0_ n1_ n2_; clear hg hw hp_))
                        go_roundg k1
                        case measure => have := HK1.out; omega
                        case rel => exact ⟨(y322), (wrap64 (x6_1 + 1)), (by first | rfl | (simp; done) | (simp [*]; done)), H', ⟨by have := HK1.out; omega⟩, ⟨by (with_reducible repeat (first | apply Kd.R_alloc | apply Kd.R_drewN | apply Kd.R_drew)); exact HO_5.out⟩, ⟨by (with_reducible repeat (first | refine blk_drewN ?_ _ | refine blk_drew ?_ | refine blk_alloc ?_ _)); exact BK313.out⟩, ⟨by repeat (first | (with_reducible first | exact HB.out | apply below_alloc | apply pw_below_drewN | apply below_drew1 | refine below_set ?_ GE313.out) | exact HB.out)⟩⟩
                      · rw [if_neg c19] at H
                        exact absurd H (by simp)
                    · rw [if_neg c18] at H
                      exact absurd H (by simp)
                  · rw [if_neg c16] at H
                    have c16b0 : decide ((rd l1 x6_1) < 0) = false := decide_eq_false c16
                    clear c16
                    have H' := Ak H
                    clear H
                    have p317 : 0 ≤ (x6_1 : Int) := of_decide_eq_true (by first | (with_reducible assumption) | assumption)
                    have q317 : x6_1 < (l1.length : Int) := of_decide_eq_true (by first | (with_reducible assumption) | assumption)
                    obtain ⟨ad317, e317, hx317_0⟩ := Kd.at_int HR1.out x6_1 p317 q317
                    cases e317
                    replace hx317_0 := (HB.out.cell (World.block_lt_of_cell? w _ hx317_0)).trans hx317_0
                    replace p317 := eq_true p317
                    replace q317 := eq_true q317
                    go_wp2_with (first | ((with_reducible refine gate_callee (f := 71) rfl ?_); refine goesL_ (some 22) rfl rfl Try.func71 (by kernel_rfl) rfl #[.int .i64 (rd l1 x6_1)] rfl (by (try simp only [List.map_toArray, List.map_cons, List.map_nil]); first | done | rfl | (simp only [List.length_drop, List.length_take]; rfl)) ?_; (with_reducible refine (ratchetbase_Size.calls (rd l1 x6_1) t318 _ A12.out).mono ?_); rintro e w26 ⟨rfl, hb⟩; refine ⟨_, rfl, ?_⟩; have n0_ := Ak (Kd.R_below (by (with_reducible repeat (first | apply Kd.R_alloc | apply Kd.R_drewN | apply Kd.R_drew)); exact HO_5.out) hb); have n1_ := Ak (blk_below (g := gb313) (o := .cells #[.int .i64 a0_0, .slice A0_1 l0_1.length c0_1] 24 (0, 0)) (by (with_reducible repeat (first | refine blk_drewN ?_ _ | refine blk_drew ?_ | refine blk_alloc ?_ _)); exact BK313.out) hb); have n2_ := Ak (below_step (by repeat (first | (with_reducible first | exact HB.out | apply below_alloc | apply pw_below_drewN | apply below_drew1 | refine below_set ?_ GE313.out) | exact HB.out)) hb); clear HO_5; clear BK313; clear HB; have HO_5 := n0_; have BK313 := n1_; have HB := n2_; clear n0_ n1_ n2_; (try clear hb); (try clear hb2); (try clear hk); (try clear hi); have p15 : 0 ≤ (t318 : Int) := of_decide_eq_true (by first | (with_reducible assumption) | assumption); have q15 : (t318 : Int) < ((x5_1.length : Int) : Int) := of_decide_eq_true (by first | (with_reducible assumption) | assumption); obtain ⟨go15, co15, eo15, gb15, gl15, cl15, HG15⟩ := Kd.R_form HO_5.out (by omega); (first | cases eo15 | (injection eo15 with ea_ en_ ec_; (first | subst ea_ | (injection ea_ with ea_; subst ea_)); subst ec_; clear en_)); have GB15 := Ak gb15; have GG15 := Ak HG15; clear gb15 gl15 HG15; obtain ⟨hx15_0, hf15_0⟩ := Kd.R_celln 0 HO_5.out (t318 : Int) p15 q15; replace p15 := eq_true p15; replace q15 := eq_true q15; obtain ⟨hy27_, hz27_⟩ := Kd.R_celln 0 HO_5.out (t318 : Int) (of_decide_eq_true (by first | (with_reducible assumption) | assumption)) (of_decide_eq_true (by first | (with_reducible assumption) | assumption)); have HP27 := Kd.R_putg HO_5.out (t318 : Int) 1) | ((with_reducible refine gate_store (t := 3) (p := 23) rfl ?_); refine store_event (t := 3) (p := 23) (v := ?vo_w28) (w1 := (w26.setCell ⟨go15, (t318 : Int).toNat, none⟩ (.int .i64 1))) ?hg ?ho ?hn ?hr ?_; (case ho => rfl); (case hg => rfl); (case hn => rfl); (case hr => first | (go_simp; done) | (go_simp; rfl)); intro w28 hw; have hg : w26.grownBy w28 (some go15) := (by rw [hw]; exact HP27.2); have hp_ : Kd.R (Kd.int .i64) 3 w28 w.heap.size (fun _ => True) (.slice (some ⟨go15, 0, none⟩) x5_1.length co15) y319 := (by rw [hw, Ny319.out]; exact HP27.1); clear HP27; have n0_ := Ak (hp_); have n1_ := Ak (blk_grown (g := gb313) (o := .cells #[.int .i64 a0_0, .slice A0_1 l0_1.length c0_1] 24 (0, 0)) (by (with_reducible repeat (first | refine blk_drewN ?_ _ | refine blk_drew ?_ | refine blk_alloc ?_ _)); exact BK313.out) hg (Kd.R_ne HO_5.out BK313.out (by decide))); have n2_ := Ak ((by rw [hw]; exact below_set (HB.out) GB15.out : Below w.heap.size w w28)); clear HO_5; clear BK313; clear HB; have HO_5 := n0_; have BK313 := n1_; have HB := n2_; clear n0_ n1_ n2_; clear hg hw hp_; have p320 : 0 ≤ (x6_1 : Int) := of_decide_eq_true (by first | (with_reducible assumption) | assumption); have q320 : x6_1 < (l1.length : Int) := of_decide_eq_true (by first | (with_reducible assumption) | assumption); obtain ⟨ad320, e320, hx320_0⟩ := Kd.at_int HR1.out x6_1 p320 q320; obtain rfl : ad317 = ad320 := (by injection e320); replace hx320_0 := (HB.out.cell (World.block_lt_of_cell? w _ hx320_0)).trans hx320_0; replace p320 := eq_true p320; replace q320 := eq_true q320))
                    go_roundg k1
                    case measure => have := HK1.out; omega
                    case rel => exact ⟨(y319), (wrap64 (x6_1 + 1)), (by first | rfl | (simp; done) | (simp [*]; done)), H', ⟨by have := HK1.out; omega⟩, ⟨by (with_reducible repeat (first | apply Kd.R_alloc | apply Kd.R_drewN | apply Kd.R_drew)); exact HO_5.out⟩, ⟨by (with_reducible repeat (first | refine blk_drewN ?_ _ | refine blk_drew ?_ | refine blk_alloc ?_ _)); exact BK313.out⟩, ⟨by repeat (first | (with_reducible first | exact HB.out | apply below_alloc | apply pw_below_drewN | apply below_drew1 | refine below_set ?_ GE313.out) | exact HB.out)⟩⟩
                · rw [if_neg c14] at H
                  exact absurd H (by simp)
              · rw [if_neg c13] at H
                exact absurd H (by simp)
            · rw [if_neg c11] at H
              exact absurd H (by simp)
          · rw [if_neg c10] at H
            have c10b0 : decide (x6_1 < (l1.length : Int)) = false := decide_eq_false c10
            clear c10
            obtain rfl := Option.some.inj H
            go_wp2
            go_ret
            exact ⟨_, by first | rfl | (simp [errW_none, errW_some] <;> rfl) | (simp only [← hji3]; first | rfl | (simp [errW_none, errW_some] <;> rfl)) | (simp [*, errW_none, errW_some] <;> rfl), by (with_reducible repeat (first | apply Kd.R_alloc | apply Kd.R_drewN | apply Kd.R_drew)); exact HO_5.out, by repeat (first | (with_reducible first | exact HB.out | apply below_alloc | apply pw_below_drewN | apply below_drew1 | refine below_set ?_ GE313.out) | exact HB.out)⟩
    · rw [if_neg c5] at H
      exact absurd H (by simp)
  · rw [if_neg c4] at H
    exact absurd H (by simp)
def ratchetref03_truth.f (l0 : List Int) (a1 : Int) : Option (Int) := if a1 > 0 then (if 0 ≤ a1 then (if a1 < (l0.length : Int) then (some (rd l0 a1)) else (none)) else (none)) else (if 0 ≤ (wrap64 (-a1)) then (if (wrap64 (-a1)) < (l0.length : Int) then (some (wrap64 (-(rd l0 (wrap64 (-a1)))))) else (none)) else (none))
set_option maxHeartbeats 8000000 in
set_option maxRecDepth 100000 in
theorem ratchetref03_truth.calls (A0 : Option Addr) (c0 : Nat) (l0 : List Int) (a1 : Int) (r : Int) (w : World) (hr0 : Kd.C (Kd.int .i64) w A0 l0.length l0) (hc0 : l0.length ≤ c0) (h : ratchetref03_truth.f l0 a1 = some r) :
    Calls Try.prog 92 #[.slice A0 l0.length c0, .int .i64 a1] w fun e w' => e = .returned (.int .i64 r) ∧ Drawn0 w w' := by
  have HR0 := Ak hr0
  have HC0 := Ak hc0
  clear hr0 hc0
  have H : (if a1 > 0 then (if 0 ≤ a1 then (if a1 < (l0.length : Int) then (some (rd l0 a1)) else (none)) else (none)) else (if 0 ≤ (wrap64 (-a1)) then (if (wrap64 (-a1)) < (l0.length : Int) then (some (wrap64 (-(rd l0 (wrap64 (-a1)))))) else (none)) else (none))) = some r := h
  clear h
  by_cases c3 : a1 > 0
  · rw [if_pos c3] at H
    have c3b0 : decide (0 < a1) = true := decide_eq_true c3
    clear c3
    by_cases c4 : 0 ≤ a1
    · rw [if_pos c4] at H
      have c4b0 : decide (0 ≤ a1) = true := decide_eq_true c4
      clear c4
      by_cases c5 : a1 < (l0.length : Int)
      · rw [if_pos c5] at H
        have c5b0 : decide (a1 < (l0.length : Int)) = true := decide_eq_true c5
        clear c5
        obtain rfl := Option.some.inj H
        have p323 : 0 ≤ (a1 : Int) := of_decide_eq_true (by first | (with_reducible assumption) | assumption)
        have q323 : a1 < (l0.length : Int) := of_decide_eq_true (by first | (with_reducible assumption) | assumption)
        obtain ⟨ad323, e323, hx323_0⟩ := Kd.at_int HR0.out a1 p323 q323
        cases e323
        replace p323 := eq_true p323
        replace q323 := eq_true q323
        go_enter Try.func92, Try.ntmps92
        go_wp2
        go_ret
        exact ⟨by first | rfl | (simp; done) | (simp [*]; done), by repeat (first | exact Drawn0.refl _ | apply Drawn0.step)⟩
      · rw [if_neg c5] at H
        exact absurd H (by simp)
    · rw [if_neg c4] at H
      exact absurd H (by simp)
  · rw [if_neg c3] at H
    have c3b0 : decide (0 < a1) = false := decide_eq_false c3
    clear c3
    obtain ⟨ji6, hji6⟩ : ∃ j_ : Int, (wrap64 (-a1)) = j_ := ⟨_, rfl⟩
    replace H : (if 0 ≤ (ji6) then (if (ji6) < (l0.length : Int) then (some (wrap64 (-(rd l0 (ji6))))) else (none)) else (none)) = some r := by first | (rw [hji6] at H; exact H) | (simp only [hji6] at H ⊢; exact H)
    have hji6w : (IntKind.i64.wrap (-a1)) = ji6 := (i64_w _).trans hji6
    by_cases c7 : 0 ≤ (ji6)
    · rw [if_pos c7] at H
      have c7b0 : decide (0 ≤ (ji6)) = true := decide_eq_true c7
      clear c7
      by_cases c8 : (ji6) < (l0.length : Int)
      · rw [if_pos c8] at H
        have c8b0 : decide ((ji6) < (l0.length : Int)) = true := decide_eq_true c8
        clear c8
        obtain rfl := Option.some.inj H
        have p324 : 0 ≤ ((ji6) : Int) := of_decide_eq_true (by first | (with_reducible assumption) | assumption)
        have q324 : (ji6) < (l0.length : Int) := of_decide_eq_true (by first | (with_reducible assumption) | assumption)
        obtain ⟨ad324, e324, hx324_0⟩ := Kd.at_int HR0.out (ji6) p324 q324
        cases e324
        replace p324 := eq_true p324
        replace q324 := eq_true q324
        go_enter Try.func92, Try.ntmps92
        go_wp2
        go_ret
        exact ⟨by first | rfl | (simp; done) | (simp only [← hji6] <;> (first | rfl | simp)) | (simp [*]; done), by repeat (first | exact Drawn0.refl _ | apply Drawn0.step)⟩
      · rw [if_neg c8] at H
        exact absurd H (by simp)
    · rw [if_neg c7] at H
      exact absurd H (by simp)
end Go.Proofs.Ytapbkoolddnjgaa.PA
