/- What the claim needs of PAx8: lemmas and contracts, cut by a program to what is used. -/
import Derived.Test.YtapbkoolddnjgaaQfPAx0
import Derived.Test.YtapbkoolddnjgaaQfPAx1
import Derived.Test.YtapbkoolddnjgaaQfPAx2
import Derived.Test.YtapbkoolddnjgaaQfPAx3
import Derived.Test.YtapbkoolddnjgaaQfPAx4
import Derived.Test.YtapbkoolddnjgaaQfPAx7
namespace Go.Proofs.Ytapbkoolddnjgaa.PA
open Go.RowKit Go.Proofs.YtapbkoolddnjgaaW.PrintWords Go.Proofs.YtapbkoolddnjgaaW.PrintLast Go.Proofs.YtapbkoolddnjgaaW.PrintMore Go.Proofs.Sl
attribute [local go_sem] max2_int min2_int max_two min_two max_three min_three max_four min_four
set_option linter.unusedVariables false
set_option linter.unusedSimpArgs false
def propScan (vals : List Int) : Nat → List (List Int) → Option (Nat × Option Int)
  | _, [] => none
  | i, c :: L => if (openRun vals [] c).2 = true ∨ 1 < (openRun vals [] c).1.length then propScan vals (i + 1) L
      else match (openRun vals [] c).1 with
        | [] => some (i, none)
        | n :: _ => some (i, some n)
def propRun (L : List (List Int)) : Nat → List Int → List Int → List Int × Int
  | 0, _, forced => (forced, -1)
  | k + 1, vals, forced => match propScan vals 0 L with
    | none => (forced, -1)
    | some (i, none) => (forced, i)
    | some (_, some n) => propRun L k (setLit vals n) (forced ++ [n])
def propagatedErr (vars : Int) (L : List (List Int)) (assumed : List Int) : Int := if (checkFormula vars L).2 = 0 then litErr vars assumed 1000 else (checkFormula vars L).2
def propagated (vars : Int) (L : List (List Int)) (assumed : List Int) : List Int × Int × Int :=
  if propagatedErr vars L assumed = 0 then ((propRun L 1002 (assumed.foldl setLit (List.replicate (vars + 1).toNat 0)) []).1, (propRun L 1002 (assumed.foldl setLit (List.replicate (vars + 1).toNat 0)) []).2, 0) else ([], 0, propagatedErr vars L assumed)
def cnf_Propagated.f (a0_0 : Int) (l0_1 : List (List Int)) (l1 : List Int) : Option (List Int × Int × Int) := some (propagated a0_0 l0_1 l1)
theorem VOk.set {vars : Int} {vals : List Int} (h : VOk vars vals) (n : Int) : VOk vars (setLit vals n) := by
  refine ⟨h.vars0, h.vars1, by unfold setLit; simpa using h.len, fun x hx => ?_⟩
  unfold setLit at hx
  rcases List.mem_or_eq_of_mem_set hx with hx | hx
  · exact h.unit x hx
  · rw [hx]; split
    · exact .inl rfl
    · exact .inr (.inr rfl)
theorem zero_set {l : List Int} {i : Nat} {x : Int} (hi : i < l.length) (h0 : l[i] = 0) (hx : x ≠ 0) : (l.set i x).countP (fun y => y == 0) + 1 = l.countP (fun y => y == 0) := by
  induction l generalizing i with
  | nil => simp at hi
  | cons a l ih =>
    cases i with
    | zero =>
      have ha : a = 0 := by simpa using h0
      subst ha
      have hb : (x == 0) = false := by simpa using hx
      simp [List.countP_cons, hb]
    | succ i =>
      have hi' : i < l.length := by simpa using hi
      have := ih hi' (by simpa using h0)
      simp only [Lc, List.countP_cons]
      omega
theorem zero_lit {vals : List Int} {n : Int} (hlt : n.natAbs < vals.length) (h0 : litVal vals n = 0) : (setLit vals n).countP (fun y => y == 0) + 1 = vals.countP (fun y => y == 0) := by
  have hz : vals[n.natAbs] = 0 := by
    unfold litVal rd at h0
    by_cases hl : n < 0
    · rw [if_pos hl, show (-n).toNat = n.natAbs by omega] at h0
      simp [hlt] at h0; exact h0
    · rw [if_neg hl, show n.toNat = n.natAbs by omega] at h0
      simp [hlt] at h0; exact h0
  exact zero_set hlt hz (by split <;> decide)
set_option maxHeartbeats 8000000 in
set_option maxRecDepth 100000 in
theorem cnf_Propagated.calls (a0_0 : Int) (A0_1 : Option Addr) (c0_1 : Nat) (l0_1 : List (List Int)) (A1 : Option Addr) (c1 : Nat) (l1 : List Int) (r1 : List Int) (r2 r3 : Int) (w : World) (hr0_1 : Kd.C (Kd.slice 3 (Kd.int .i64)) w A0_1 l0_1.length l0_1) (hc0_1 : l0_1.length ≤ c0_1) (hr1 : Kd.C (Kd.int .i64) w A1 l1.length l1) (hc1 : l1.length ≤ c1) (h : cnf_Propagated.f a0_0 l0_1 l1 = some (r1, r2, r3)) :
    Calls Try.prog 31 #[.agg #[.int .i64 a0_0, .slice A0_1 l0_1.length c0_1], .slice A1 l1.length c1] w fun e w' => ∃ v0_ : Value, e = .returned (.tuple #[v0_, .int .i64 r2, .int .i64 r3]) ∧ Kd.R (Kd.int .i64) 3 w' w.heap.size (fun _ => True) v0_ r1 ∧ Below w.heap.size w w' := by
  have hE : propagated a0_0 l0_1 l1 = (r1, r2, r3) := Option.some.inj h
  clear h
  have hu24 := Try.underlying24
  unfold propagated at hE
  have HE := Ak hE; clear hE
  have HR := Ak hr0_1; have HR1 := Ak hr1
  have H0 := Ak ((St.start w).box_new 24 #[.int .i64 a0_0, .slice A0_1 l0_1.length c0_1])
  clear hr0_1 hr1
  have q0 := H0.out.box_cell (i := 0) rfl 0
  have q1 := H0.out.box_cell (i := 0) rfl 1
  simp only [List.getElem?_toArray, List.getElem?_cons_zero, List.getElem?_cons_succ] at q0 q1
  obtain ⟨e1, he1⟩ : ∃ e1 : Int, e1 = (checkFormula a0_0 l0_1).2 := ⟨_, rfl⟩
  obtain ⟨e2, he2⟩ : ∃ e2 : Int, e2 = propagatedErr a0_0 l0_1 l1 := ⟨_, rfl⟩
  have E1 := Ak he1; have E2 := Ak he2
  clear he1 he2
  go_enter Try.func31, Try.ntmps31
  go_wp2
  go_step3
  go_wp2_with fail
  refine (cnf_formulaErr.calls a0_0 A0_1 c0_1 l0_1 e1 _ (Kd.C_below HR.out H0.out.below) hc0_1 (by rw [formulaErr_f, E1.out])).mono ?_
  clear q0 q1
  rintro e w1 ⟨rfl, hb⟩
  have H1 := Ak (H0.out.mv hb); clear hb H0
  have q0 := H1.out.box_cell (i := 0) rfl 0
  have q1 := H1.out.box_cell (i := 0) rfl 1
  simp only [List.getElem?_toArray, List.getElem?_cons_zero, List.getElem?_cons_succ] at q0 q1
  by_cases h1 : e1 = 0
  · subst h1
    have he2 := E2.out
    unfold propagatedErr at he2
    rw [if_pos E1.out.symm] at he2
    go_wp2_with fail
    refine (cnf_literalsErr.calls a0_0 A1 c1 l1 1000 e2 _ (Kd.C_below HR1.out H1.out.below) hc1 (by rw [he2]; rfl)).mono ?_
    clear q0 q1
    rintro e w2 ⟨rfl, hb⟩
    have H2 := Ak (H1.out.mv hb); clear hb H1
    by_cases h2 : e2 = 0
    · subst h2
      have hx := HE.out
      rw [if_pos E2.out.symm] at hx
      have HX := Ak hx
      have HL := Ak he2
      obtain ⟨g1, g2, g3, g4, g5⟩ := formula_sv (fuel := 0) (E1.out.symm : (checkFormula a0_0 l0_1).2 = 0)
      have hlits := g1.lits
      have hlits2 : ∀ n ∈ l1, n ≠ 0 ∧ -a0_0 ≤ n ∧ n ≤ a0_0 := by
        intro n hn
        obtain ⟨h5, h6, h7⟩ := litErr_mem he2.symm n hn
        have h8 : wrap64 (-a0_0) = -a0_0 := by unfold wrap64; omega
        rw [h8] at h6
        exact ⟨h5, h6, h7⟩
      have hl1 : l1.length ≤ 1000 := by
        have := he2
        unfold litErr at this
        split at this
        · cases this
        · omega
      have hlits3 : ∀ c ∈ l0_1, ∀ n ∈ c, n ≠ 0 ∧ -a0_0 ≤ n ∧ n ≤ a0_0 := hlits
      have HL1 := Ak hlits3; have HL2 := Ak hlits2
      have q0 := H2.out.box_cell (i := 0) rfl 0
      simp only [List.getElem?_toArray, List.getElem?_cons_zero, List.getElem?_cons_succ] at q0
      have hi96 : (Try.prog.info? 96).map (fun i => (i.zero, i.size, i.bytes)) = some (some (.int .i8 0), 1, 1) := by kernel_rfl
      clear hx HE he2 hlits hlits2 hlits3 g1 HL
      go_upto_region 7 with ((with_reducible refine gate_dst (N := 30) rfl ?_); refine Kd.R_make (Kd.int .i8) (w0 := w2) (W := w2) w2.heap.size 96 ?hg (N := 30) ?hd 80 (.tmp 29) (.tmp 29) rfl (a0_0 + 1) rfl rfl Try.underlying80 (.int .i8 0) 1 hi96 rfl Nat.zero_lt_one (by decide) 0 (ok := fun _ => True) (okp := fun _ => False) rfl (fun _ h => h.elim) trivial (by omega) (by omega) (Below.refl _ _) (Nat.le_refl _) ?_; (case hd => rfl); (case hg => rfl); intro v8 w5 hR hb _ _; have H5 := Ak (H2.out.row_new hb hR); clear hR hb H2 q0)
      have hvok : VOk a0_0 (List.replicate (a0_0 + 1).toNat 0) := ⟨g4, g5, by rw [List.length_replicate]; omega, fun x hx => .inr (.inl (List.eq_of_mem_replicate hx))⟩
      generalize hvf : l1.foldl setLit (List.replicate (a0_0 + 1).toNat 0) = vf at HX
      generalize List.replicate (a0_0 + 1).toNat (0 : Int) = v0 at H5 hvok hvf
      have HVO := Ak hvok; have HVF := Ak hvf
      clear hvok hvf
      go_wp2
      go_loopg [33] l1.length (fun kq v33 wr => ∃ (j : Nat) (vs : List Int), v33 = .int .i64 (j : Int) ∧ Aside0 (j + kq = l1.length) ∧ Aside0 (VOk a0_0 vs) ∧ Aside0 ((l1.drop j).foldl setLit vs = vf) ∧ Aside0 (St w wr [row w.heap.size (Kd.int .i8) 96 v8 vs, box w.heap.size 24 #[.int .i64 a0_0, .slice A0_1 l0_1.length c0_1]]))
      case atStart => exact ⟨0, v0, rfl, ⟨by omega⟩, HVO, ⟨by rw [List.drop_zero]; exact HVF.out⟩, H5⟩
      case round =>
        obtain ⟨j, vs, rfl, HJ, HV, HF, H6⟩ := hrel
        clear H5
        by_cases hj : j < l1.length
        · have hj0 : (0 : Int) ≤ (j : Int) := by omega
          have hj1 : (j : Int) < (l1.length : Int) := by omega
          obtain ⟨adj, rfl, hxj⟩ := Kd.at_int (Kd.C_below HR1.out H6.out.below) (j : Int) hj0 hj1
          rw [Int.toNat_natCast] at hxj
          have hd : l1.drop j = rd l1 (j : Int) :: l1.drop (j + 1) := by
            rw [List.drop_eq_getElem_cons hj]; simp [rd, hj]
          have hf := HF.out; rw [hd] at hf
          have hln := HL2.out _ (rd_mem hj0 hj1)
          generalize rd l1 (j : Int) = n at hxj hf hln
          have hvl := HV.out.len
          have HS := Ak (set_f (vals := vs) (lit := n) ⟨by omega, by omega⟩ (by omega))
          have HF2 := Ak (show (l1.drop (j + 1)).foldl setLit (setLit vs n) = vf from hf)
          clear hf hd HF
          go_wp2_with fail
          obtain ⟨F1, hF1, hput⟩ := H6.out.row_kept (i := 0) rfl
          refine (cnf_values_set.calls F1 v8 vs n _ w _ H6.out.below hF1 HS.out).mono ?_
          clear hxj
          rintro e w7 ⟨rfl, hR7, hb7, hk7⟩
          have h7 := hput w7 v8 _ hR7 hb7 hk7
          simp only [List.set] at h7
          have H7 := Ak h7; have HV7 := Ak (HV.out.set n)
          clear hR7 hb7 hk7 hput hF1 H6 h7
          go_wp2
          go_roundg (gk - 1)
          case measure => have := HJ.out; omega
          case rel => exact ⟨j + 1, _, by go_num, ⟨by have := HJ.out; omega⟩, HV7, HF2, H7⟩
        · have hj1 : ¬ (j : Int) < (l1.length : Int) := by omega
          have hf := HF.out; rw [List.drop_of_length_le (by omega)] at hf
          obtain rfl : vs = vf := hf
          clear HF
          go_wp2
          obtain ⟨A8, c8, rfl, hc8, _⟩ := H6.out.row_reads (i := 0) rfl
          have hvl := HV.out.len
          have hzero : vs.countP (fun x => x == 0) ≤ vs.length := List.countP_le_length
          generalize hpr : propRun l0_1 1002 vs [] = fin at HX
          have HPR := Ak hpr
          have h7 := H6.out.row_nil (Kd.int .i64) 3
          have H7 := Ak h7
          have hlen0 : vs.length ≤ 1001 := by omega
          generalize hvn : vs.length = vn at H7 hc8 ⊢
          have hvn2 : (vn : Int) = a0_0 + 1 := by omega
          clear hpr h7 H6 hvl
          go_step3
          go_wp2
          go_loopg [11] 1002 (fun kq v11 wr => ∃ (vs forced : List Int), Aside0 (VOk a0_0 vs) ∧ Aside0 (propRun l0_1 kq vs forced = fin) ∧ Aside0 (vs.countP (fun x => x == 0) < kq) ∧ Aside0 (forced.length + kq ≤ 1002) ∧
            Aside0 (St w wr [row w.heap.size (Kd.int .i64) 3 v11 forced, row w.heap.size (Kd.int .i8) 96 (.slice A8 vn c8) vs, box w.heap.size 24 #[.int .i64 a0_0, .slice A0_1 l0_1.length c0_1]]))
          case atStart => exact ⟨vs, [], HV, HPR, ⟨by omega⟩, ⟨by simp⟩, H7⟩
          case round =>
            obtain ⟨vs, forced, HV, HP, HZ, HFL, H8⟩ := hrel
            clear H7 HPR
            obtain ⟨k1, rfl⟩ : ∃ m, gk = m + 1 := ⟨gk - 1, by have := HZ.out; omega⟩
            have hp := HP.out
            unfold propRun at hp
            generalize hsc : propScan vs 0 l0_1 = sc at hp
            have HSC := Ak hsc; have HP2 := Ak hp
            clear hp hsc HP
            have q1 := H8.out.box_cell (i := 2) rfl 1
            simp only [List.getElem?_toArray, List.getElem?_cons_zero, List.getElem?_cons_succ] at q1
            obtain ⟨A11, c11, rfl, hc11, _⟩ := H8.out.row_reads (i := 0) rfl
            go_wp2
            clear q1
            go_loopg [11, 44] l0_1.length (fun kq v11 v44 wr => ∃ i : Nat, v11 = .slice A11 forced.length c11 ∧ v44 = .int .i64 (i : Int) ∧ Aside0 (i + kq = l0_1.length) ∧ Aside0 (propScan vs i (l0_1.drop i) = sc) ∧
              Aside0 (St w wr [row w.heap.size (Kd.int .i64) 3 (.slice A11 forced.length c11) forced, row w.heap.size (Kd.int .i8) 96 (.slice A8 vn c8) vs, box w.heap.size 24 #[.int .i64 a0_0, .slice A0_1 l0_1.length c0_1]]))
            case atStart => exact ⟨0, rfl, rfl, ⟨by omega⟩, ⟨by rw [List.drop_zero]; exact HSC.out⟩, H8⟩
            case round =>
              obtain ⟨i, rfl, rfl, HI, HS, H9⟩ := hrel
              clear H8 HSC
              by_cases hi : i < l0_1.length
              · have hi0 : (0 : Int) ≤ (i : Int) := by omega
                have hi1 : (i : Int) < (l0_1.length : Int) := by omega
                obtain ⟨ad, A', c', rfl, hx, hxc, hxr⟩ := at_rows (Kd.C_below HR.out H9.out.below) (i : Int) hi0 hi1
                rw [Int.toNat_natCast] at hx
                have hd : l0_1.drop i = rdL l0_1 (i : Int) :: l0_1.drop (i + 1) := by
                  rw [List.drop_eq_getElem_cons hi]; simp [rdL, hi]
                have hci : rdL l0_1 (i : Int) ∈ l0_1 := by
                  unfold rdL; rw [List.getD_eq_getElem?_getD, Int.toNat_natCast, List.getElem?_eq_getElem hi]; exact List.getElem_mem _
                have hlen := g3 _ hci
                have hlc := HL1.out _ hci
                have hs := HS.out; rw [hd] at hs; unfold propScan at hs
                generalize rdL l0_1 (i : Int) = ci at hx hxc hxr hlen hlc hs
                have hop := open_f HV.out ci hlc hlen
                have hmm := openRun_mem vs ci []
                generalize openRun vs [] ci = o at hop hs hmm
                obtain ⟨l, dn⟩ := o
                dsimp only at hs hmm
                have HO := Ak hop; have HS2 := Ak hs; have HXR := Ak hxr; have HXC := Ak hxc; have HMM := Ak hmm; have HLC := Ak hlc
                clear hop hs hxr hxc hd HS hci hmm hlc
                go_wp2_with fail
                have hvl : vs.length = vn := by have := HV.out.len; omega
                obtain ⟨A8', c8', e8, _, hC8⟩ := H9.out.row_reads (i := 1) rfl
                injection e8 with e81 e82 e83
                subst e81; subst e83
                have hcall := cnf_values_open.calls (ci.length + 1) A8 c8 vs A' c' ci l dn _ hC8 (by omega) HXR.out HXC.out HO.out
                rw [hvl] at hcall
                refine hcall.mono ?_
                clear hcall hx hC8 e82
                rintro e w6 ⟨v14, rfl, hR, hb⟩
                have h10 := H9.out.row_new hb hR
                obtain ⟨A14, c14, rfl, hc14, hr14⟩ := h10.row_reads (i := 0) rfl
                have H10 := Ak h10
                have H11 := Ak (h10.drop 0)
                simp only [List.eraseIdx] at H11
                have HR14 := Ak hr14
                clear hR hb h10 H9 hr14 HXR HO
                by_cases hA : dn = true ∨ 1 < l.length
                · have hs := HS2.out; rw [if_pos hA] at hs
                  have HS3 := Ak hs; clear hs HS2
                  rcases Bool.eq_false_or_eq_true dn with hd | hd
                  · subst hd
                    clear hA
                    go_wp2
                    go_roundg (gk - 1)
                    case measure => have := HI.out; omega
                    case rel => exact ⟨i + 1, rfl, by go_num, ⟨by have := HI.out; omega⟩, HS3, H11⟩
                  · subst hd
                    have h2 : 1 < l.length := by simpa using hA
                    have h3 : ¬ (l.length ≤ 1) := by omega
                    have h4 : (1 : Int) < (l.length : Int) := by omega
                    clear hA
                    go_wp2
                    go_roundg (gk - 1)
                    case measure => have := HI.out; omega
                    case rel => exact ⟨i + 1, rfl, by go_num, ⟨by have := HI.out; omega⟩, HS3, H11⟩
                · have hs := HS2.out; rw [if_neg hA] at hs
                  clear HS2
                  obtain rfl : dn = false := by
                    cases dn
                    · rfl
                    · simp at hA
                  have h2 : l.length ≤ 1 := by simp at hA; omega
                  cases l with
                  | nil =>
                    dsimp only at hs
                    subst hs
                    have hp := HP2.out
                    dsimp only at hp
                    subst hp
                    obtain ⟨rfl, hx2⟩ := Prod.mk.inj HX.out
                    obtain ⟨rfl, rfl⟩ := Prod.mk.inj hx2
                    clear hA HX hx2 HP2
                    go_wp2
                    rw [Exit.noGoto_ret]
                    go_wp2
                    go_ret3
                    exact ⟨_, rfl, H11.out.row_out (i := 0) rfl, H11.out.below⟩
                  | cons n l' =>
                    obtain rfl : l' = [] := by
                      cases l' with
                      | nil => rfl
                      | cons _ _ => simp at h2
                    dsimp only at hs
                    subst hs
                    have hp := HP2.out
                    dsimp only at hp
                    have HP3 := Ak hp
                    have h0 : litVal vs n = 0 := by
                      rcases HMM.out.2 rfl n (List.mem_cons_self ..) with h | h
                      · simp at h
                      · exact h
                    have hmn : n ∈ ci := by
                      rcases HMM.out.1 n (List.mem_cons_self ..) with h | h
                      · simp at h
                      · exact h
                    have hln := HLC.out n hmn
                    have hlt : n.natAbs < vs.length := by omega
                    have hzs := zero_lit hlt h0
                    have HZS := Ak hzs
                    have HSF := Ak (set_f (vals := vs) (lit := n) ⟨by omega, by omega⟩ hlt)
                    obtain ⟨ad14, rfl, hx14⟩ := Kd.at_int HR14.out 0 (by omega) (by simp)
                    simp only [Int.toNat_zero, rd, List.getD_cons_zero, Addr.add_zero'] at hx14
                    clear hA hp HP2 h0 hmn hzs
                    go_wp2_with fail
                    obtain ⟨F1, hF1, hput⟩ := H10.out.row_kept (i := 2) rfl
                    refine (cnf_values_set.calls F1 _ vs n _ w _ H10.out.below hF1 HSF.out).mono ?_
                    clear hx14
                    rintro e w7 ⟨rfl, hR7, hb7, hk7⟩
                    have h12 := hput w7 _ _ hR7 hb7 hk7
                    simp only [List.set] at h12
                    have H12 := Ak h12
                    clear hR7 hb7 hk7 hput hF1 H10 H11 h12 HR14
                    obtain ⟨A15, c15, e15, _, hr15⟩ := H12.out.row_reads (i := 0) rfl
                    injection e15 with e151 _ e153
                    subst e151; subst e153
                    obtain ⟨ad15, e15, hx15⟩ := Kd.at_int hr15 0 (by omega) (by simp)
                    injection e15 with e15
                    subst e15
                    simp only [Int.toNat_zero, rd, List.getD_cons_zero, Addr.add_zero'] at hx15
                    have hbd : (forced.length + 1) * 8 ≤ 140737488355328 := by have := HFL.out; omega
                    have HBD := Ak hbd
                    have HVS := Ak (HV.out.set n)
                    clear hr15 hbd
                    go_wp2_with (at_builtin; refine st_append_int (k := .i64) (e := 3) (xs := forced) (y := n) H12.out (i := 1) rfl rfl (.tmp 71) (.tmp 75) 25 8 rfl Try.underlying25 info3 (by decide) rfl rfl HBD.out ?_; intro v16 w8 hs8; have H13 := Ak (hs8.drop 0); clear hs8 H12)
                    simp only [List.set, List.eraseIdx] at H13
                    go_roundg k1
                    case measure => omega
                    case rel => exact ⟨setLit vs n, forced ++ [n], HVS, HP3, ⟨by have := HZ.out; have := HZS.out; omega⟩, ⟨by have := HFL.out; simp; omega⟩, H13⟩
              · have hi1 : ¬ (i : Int) < (l0_1.length : Int) := by omega
                have hs := HS.out; rw [List.drop_of_length_le (by omega)] at hs; unfold propScan at hs
                subst hs
                have hp := HP2.out
                dsimp only at hp
                subst hp
                obtain ⟨rfl, hx2⟩ := Prod.mk.inj HX.out
                obtain ⟨rfl, rfl⟩ := Prod.mk.inj hx2
                clear HX hx2 HP2 HS
                go_wp2
                go_ret3
                exact ⟨_, rfl, H9.out.row_out (i := 0) rfl, H9.out.below⟩
    · have he0 : (e2 != 0) = true := bne_iff_ne.2 h2
      have hx := HE.out
      rw [if_neg (by rw [← E2.out]; exact h2), ← E2.out] at hx
      obtain ⟨rfl, hx2⟩ := Prod.mk.inj hx
      obtain ⟨rfl, rfl⟩ := Prod.mk.inj hx2
      clear hx hx2 HE h2 E2 he2
      go_wp2
      rw [Exit.noGoto_ret]
      go_wp2
      go_ret3
      exact ⟨_, rfl, Kd.R_nil _ _ _ _ _, H2.out.below⟩
  · have he0 : (e1 != 0) = true := bne_iff_ne.2 h1
    have he1 : (e1 == 0) = false := beq_eq_false_iff_ne.2 h1
    have he2 := E2.out
    unfold propagatedErr at he2
    rw [if_neg (by rw [← E1.out]; exact h1), ← E1.out] at he2
    have hx := HE.out
    rw [← E2.out, he2, if_neg h1] at hx
    obtain ⟨rfl, hx2⟩ := Prod.mk.inj hx
    obtain ⟨rfl, rfl⟩ := Prod.mk.inj hx2
    clear hx hx2 HE h1 E2 he2
    go_wp2
    rw [Exit.noGoto_ret]
    go_wp2
    go_ret3
    exact ⟨_, rfl, Kd.R_nil _ _ _ _ _, H1.out.below⟩
def ratchetlaw03_Formula.f  : Option (Int × (List (List Int))) := some (3, (([(([1, 2] : List Int)), (([(-1), 3] : List Int)), (([(-2), 3] : List Int)), (([(-3)] : List Int))] : List (List Int))))
set_option maxHeartbeats 8000000 in
set_option maxRecDepth 100000 in
theorem ratchetlaw03_Formula.calls  (r1 : Int) (r2 : List (List Int)) (w : World) (h : ratchetlaw03_Formula.f  = some (r1, r2)) :
    Calls Try.prog 32 #[] w fun e w' => ∃ v1_ : Value, e = .returned (.agg #[.int .i64 r1, v1_]) ∧ Kd.N (Kd.slice 3 (Kd.int .i64)) 25 w' w.heap.size (fun k_ => (w.heap.size ≤ k_)) v1_ r2 ∧ Below w.heap.size w w' := by
  have hu24 := Try.underlying24
  have HB := Ak (Below.refl w.heap.size w)
  have H : (some (3, (([(([1, 2] : List Int)), (([(-1), 3] : List Int)), (([(-2), 3] : List Int)), (([(-3)] : List Int))] : List (List Int))))) = some (r1, r2) := h
  clear h
  obtain ⟨y120, hy120⟩ : ∃ y_ : List Int, y_ = (([1, 2] : List Int)) := ⟨_, rfl⟩
  replace H : (some (3, (([y120, (([(-1), 3] : List Int)), (([(-2), 3] : List Int)), (([(-3)] : List Int))] : List (List Int))))) = some (r1, r2) := by first | (rw [hy120]; with_reducible exact H) | (have H2_ := (Option.bind_some _ _).symm.trans H; rw [hy120]; with_reducible exact H2_) | (have H2_ := (Option.bind_some _ _).symm.trans H; with_reducible exact H2_) | with_reducible exact H | (rw [hy120]; exact H) | exact H
  have Ny120 := Ak hy120
  clear hy120
  obtain ⟨y123, hy123⟩ : ∃ y_ : List Int, y_ = (([(-1), 3] : List Int)) := ⟨_, rfl⟩
  replace H : (some (3, (([y120, y123, (([(-2), 3] : List Int)), (([(-3)] : List Int))] : List (List Int))))) = some (r1, r2) := by first | (rw [hy123]; with_reducible exact H) | (have H2_ := (Option.bind_some _ _).symm.trans H; rw [hy123]; with_reducible exact H2_) | (have H2_ := (Option.bind_some _ _).symm.trans H; with_reducible exact H2_) | with_reducible exact H | (rw [hy123]; exact H) | exact H
  have Ny123 := Ak hy123
  clear hy123
  obtain ⟨y126, hy126⟩ : ∃ y_ : List Int, y_ = (([(-2), 3] : List Int)) := ⟨_, rfl⟩
  replace H : (some (3, (([y120, y123, y126, (([(-3)] : List Int))] : List (List Int))))) = some (r1, r2) := by first | (rw [hy126]; with_reducible exact H) | (have H2_ := (Option.bind_some _ _).symm.trans H; rw [hy126]; with_reducible exact H2_) | (have H2_ := (Option.bind_some _ _).symm.trans H; with_reducible exact H2_) | with_reducible exact H | (rw [hy126]; exact H) | exact H
  have Ny126 := Ak hy126
  clear hy126
  obtain ⟨y129, hy129⟩ : ∃ y_ : List Int, y_ = (([(-3)] : List Int)) := ⟨_, rfl⟩
  replace H : (some (3, (([y120, y123, y126, y129] : List (List Int))))) = some (r1, r2) := by first | (rw [hy129]; with_reducible exact H) | (have H2_ := (Option.bind_some _ _).symm.trans H; rw [hy129]; with_reducible exact H2_) | (have H2_ := (Option.bind_some _ _).symm.trans H; with_reducible exact H2_) | with_reducible exact H | (rw [hy129]; exact H) | exact H
  have Ny129 := Ak hy129
  clear hy129
  obtain ⟨y132, hy132⟩ : ∃ y_ : List (List Int), y_ = (([y120, y123, y126, y129] : List (List Int))) := ⟨_, rfl⟩
  replace H : (some (3, y132)) = some (r1, r2) := by first | (rw [hy132]; with_reducible exact H) | (have H2_ := (Option.bind_some _ _).symm.trans H; rw [hy132]; with_reducible exact H2_) | (have H2_ := (Option.bind_some _ _).symm.trans H; with_reducible exact H2_) | with_reducible exact H | (rw [hy132]; exact H) | exact H
  have Ny132 := Ak hy132
  clear hy132
  simp only [Option.some.injEq, Prod.mk.injEq] at H
  obtain ⟨rfl, rfl⟩ := H
  go_enter Try.func32, Try.ntmps32
  go_wp2_with (first | ((with_reducible refine gate_dst (N := 0) rfl ?_); refine box_event ?hg (N := 0) ?hd (cs := #[.int .i64 0, .slice none 0 0]) (t := 24) ?hr ?_; (case hd => rfl); (case hg => rfl); (case hr => first | (go_simp; done) | (go_simp; rfl)); intro gb119 hg w1 hbox hb; have n0_ := Ak (below_step (by repeat (first | (with_reducible first | exact HB.out | apply below_alloc | apply pw_below_drewN | apply below_drew1) | exact HB.out)) hb); have n1_ := Ak (hbox); have n2_ := Ak ((by rw [hg]; exact (below_size (by repeat (first | (with_reducible first | exact HB.out | apply below_alloc | apply pw_below_drewN | apply below_drew1) | exact HB.out))) : w.heap.size ≤ gb119)); have n3_ := Ak ((by rw [hg]; exact (below_size (by repeat (first | (with_reducible first | exact HB.out | apply below_alloc | apply pw_below_drewN | apply below_drew1) | exact HB.out))) : w.heap.size ≤ gb119)); clear HB; have HB := n0_; have BK119 := n1_; have GW119 := n2_; have GE119 := n3_; clear n0_ n1_ n2_ n3_; clear hb hbox hg) | ((with_reducible refine gate_dst (N := 1) rfl ?_); refine Kd.R_lit (Kd.int .i64) _ 3 ?hg (N := 1) ?hd (xs := ([1, 2] : List Int)) (inner := [.int .i64 1, .int .i64 2]) (ok := fun _ => True) (okp := fun _ => True) ?hr ?hp (fun _ hk => hk) trivial (Below.refl _ _) (Nat.le_refl _) (by simp) ?_; (case hd => rfl); (case hg => rfl); (case hr => first | (go_simp; done) | (go_simp; rfl)); (case hp => exact (Reps.one (show Kd.M (Kd.int .i64) _ _ _ 1 [.int .i64 1] from rfl) (Reps.one (show Kd.M (Kd.int .i64) _ _ _ 2 [.int .i64 2] from rfl) (Reps.none _ _)))); intro v121 w2 ho3 hb hg_ hnew_; clear hg_ hnew_; (first | rw [← Ny120.out] at ho3 | (simp only [Int.reduceToNat] at ho3; rw [← Ny120.out] at ho3)); have n0_ := Ak (Kd.R_lower (Kd.R_newM (M := fun k_ => (w.heap.size ≤ k_)) ho3 (below_size (by repeat (first | (with_reducible first | exact HB.out | apply below_alloc | apply pw_below_drewN | apply below_drew1 | refine below_set ?_ GE119.out) | exact HB.out))) (fun k_ h_ => h_)) (below_size (by repeat (first | (with_reducible first | exact HB.out | apply below_alloc | apply pw_below_drewN | apply below_drew1 | refine below_set ?_ GE119.out) | exact HB.out)))); have n1_ := Ak (blk_below (g := gb119) (o := .cells #[.int .i64 0, .slice none 0 0] 24 (0, 0)) (by (with_reducible repeat (first | refine blk_drewN ?_ _ | refine blk_drew ?_ | refine blk_alloc ?_ _)); exact BK119.out) hb); have n2_ := Ak (below_step (by repeat (first | (with_reducible first | exact HB.out | apply below_alloc | apply pw_below_drewN | apply below_drew1 | refine below_set ?_ GE119.out) | exact HB.out)) hb); clear BK119; clear HB; have HO122 := n0_; have BK119 := n1_; have HB := n2_; clear n0_ n1_ n2_; clear hb ho3) | ((with_reducible refine gate_dst (N := 2) rfl ?_); refine Kd.R_lit (Kd.int .i64) _ 3 ?hg (N := 2) ?hd (xs := ([(-1), 3] : List Int)) (inner := [.int .i64 (-1), .int .i64 3]) (ok := fun _ => True) (okp := fun _ => True) ?hr ?hp (fun _ hk => hk) trivial (Below.refl _ _) (Nat.le_refl _) (by simp) ?_; (case hd => rfl); (case hg => rfl); (case hr => first | (go_simp; done) | (go_simp; rfl)); (case hp => exact (Reps.one (show Kd.M (Kd.int .i64) _ _ _ (-1) [.int .i64 (-1)] from rfl) (Reps.one (show Kd.M (Kd.int .i64) _ _ _ 3 [.int .i64 3] from rfl) (Reps.none _ _)))); intro v124 w4 ho5 hb hg_ hnew_; clear hg_ hnew_; (first | rw [← Ny123.out] at ho5 | (simp only [Int.reduceToNat] at ho5; rw [← Ny123.out] at ho5)); have n0_ := Ak (Kd.R_elder' (by (with_reducible repeat (first | apply Kd.R_alloc | apply Kd.R_drewN | apply Kd.R_drew)); exact HO122.out) (Kd.R_base ho5) hb); have n1_ := Ak (Kd.R_lower (Kd.R_new' (Kd.R_newM (M := fun k_ => (w.heap.size ≤ k_)) ho5 (below_size (by repeat (first | (with_reducible first | exact HB.out | apply below_alloc | apply pw_below_drewN | apply below_drew1 | refine below_set ?_ GE119.out) | exact HB.out))) (fun k_ h_ => h_)) (Kd.R_lt (by (with_reducible repeat (first | apply Kd.R_alloc | apply Kd.R_drewN | apply Kd.R_drew)); exact HO122.out))) (below_size (by repeat (first | (with_reducible first | exact HB.out | apply below_alloc | apply pw_below_drewN | apply below_drew1 | refine below_set ?_ GE119.out) | exact HB.out)))); have n2_ := Ak (blk_below (g := gb119) (o := .cells #[.int .i64 0, .slice none 0 0] 24 (0, 0)) (by (with_reducible repeat (first | refine blk_drewN ?_ _ | refine blk_drew ?_ | refine blk_alloc ?_ _)); exact BK119.out) hb); have n3_ := Ak (below_step (by repeat (first | (with_reducible first | exact HB.out | apply below_alloc | apply pw_below_drewN | apply below_drew1 | refine below_set ?_ GE119.out) | exact HB.out)) hb); clear HO122; clear BK119; clear HB; have HO122 := n0_; have HO125 := n1_; have BK119 := n2_; have HB := n3_; clear n0_ n1_ n2_ n3_; clear hb ho5) | ((with_reducible refine gate_dst (N := 3) rfl ?_); refine Kd.R_lit (Kd.int .i64) _ 3 ?hg (N := 3) ?hd (xs := ([(-2), 3] : List Int)) (inner := [.int .i64 (-2), .int .i64 3]) (ok := fun _ => True) (okp := fun _ => True) ?hr ?hp (fun _ hk => hk) trivial (Below.refl _ _) (Nat.le_refl _) (by simp) ?_; (case hd => rfl); (case hg => rfl); (case hr => first | (go_simp; done) | (go_simp; rfl)); (case hp => exact (Reps.one (show Kd.M (Kd.int .i64) _ _ _ (-2) [.int .i64 (-2)] from rfl) (Reps.one (show Kd.M (Kd.int .i64) _ _ _ 3 [.int .i64 3] from rfl) (Reps.none _ _)))); intro v127 w6 ho7 hb hg_ hnew_; clear hg_ hnew_; (first | rw [← Ny126.out] at ho7 | (simp only [Int.reduceToNat] at ho7; rw [← Ny126.out] at ho7)); have n0_ := Ak (Kd.R_elder' (by (with_reducible repeat (first | apply Kd.R_alloc | apply Kd.R_drewN | apply Kd.R_drew)); exact HO122.out) (Kd.R_base ho7) hb); have n1_ := Ak (Kd.R_elder' (by (with_reducible repeat (first | apply Kd.R_alloc | apply Kd.R_drewN | apply Kd.R_drew)); exact HO125.out) (Kd.R_base ho7) hb); have n2_ := Ak (Kd.R_lower (Kd.R_new' (Kd.R_new' (Kd.R_newM (M := fun k_ => (w.heap.size ≤ k_)) ho7 (below_size (by repeat (first | (with_reducible first | exact HB.out | apply below_alloc | apply pw_below_drewN | apply below_drew1 | refine below_set ?_ GE119.out) | exact HB.out))) (fun k_ h_ => h_)) (Kd.R_lt (by (with_reducible repeat (first | apply Kd.R_alloc | apply Kd.R_drewN | apply Kd.R_drew)); exact HO122.out))) (Kd.R_lt (by (with_reducible repeat (first | apply Kd.R_alloc | apply Kd.R_drewN | apply Kd.R_drew)); exact HO125.out))) (below_size (by repeat (first | (with_reducible first | exact HB.out | apply below_alloc | apply pw_below_drewN | apply below_drew1 | refine below_set ?_ GE119.out) | exact HB.out)))); have n3_ := Ak (blk_below (g := gb119) (o := .cells #[.int .i64 0, .slice none 0 0] 24 (0, 0)) (by (with_reducible repeat (first | refine blk_drewN ?_ _ | refine blk_drew ?_ | refine blk_alloc ?_ _)); exact BK119.out) hb); have n4_ := Ak (below_step (by repeat (first | (with_reducible first | exact HB.out | apply below_alloc | apply pw_below_drewN | apply below_drew1 | refine below_set ?_ GE119.out) | exact HB.out)) hb); clear HO122; clear HO125; clear BK119; clear HB; have HO122 := n0_; have HO125 := n1_; have HO128 := n2_; have BK119 := n3_; have HB := n4_; clear n0_ n1_ n2_ n3_ n4_; clear hb ho7) | ((with_reducible refine gate_dst (N := 4) rfl ?_); refine Kd.R_lit (Kd.int .i64) _ 3 ?hg (N := 4) ?hd (xs := ([(-3)] : List Int)) (inner := [.int .i64 (-3)]) (ok := fun _ => True) (okp := fun _ => True) ?hr ?hp (fun _ hk => hk) trivial (Below.refl _ _) (Nat.le_refl _) (by simp) ?_; (case hd => rfl); (case hg => rfl); (case hr => first | (go_simp; done) | (go_simp; rfl)); (case hp => exact (Reps.one (show Kd.M (Kd.int .i64) _ _ _ (-3) [.int .i64 (-3)] from rfl) (Reps.none _ _))); intro v130 w8 ho9 hb hg_ hnew_; clear hg_ hnew_; (first | rw [← Ny129.out] at ho9 | (simp only [Int.reduceToNat] at ho9; rw [← Ny129.out] at ho9)); have n0_ := Ak (Kd.R_elder' (by (with_reducible repeat (first | apply Kd.R_alloc | apply Kd.R_drewN | apply Kd.R_drew)); exact HO122.out) (Kd.R_base ho9) hb); have n1_ := Ak (Kd.R_elder' (by (with_reducible repeat (first | apply Kd.R_alloc | apply Kd.R_drewN | apply Kd.R_drew)); exact HO125.out) (Kd.R_base ho9) hb); have n2_ := Ak (Kd.R_elder' (by (with_reducible repeat (first | apply Kd.R_alloc | apply Kd.R_drewN | apply Kd.R_drew)); exact HO128.out) (Kd.R_base ho9) hb); have n3_ := Ak (Kd.R_lower (Kd.R_new' (Kd.R_new' (Kd.R_new' (Kd.R_newM (M := fun k_ => (w.heap.size ≤ k_)) ho9 (below_size (by repeat (first | (with_reducible first | exact HB.out | apply below_alloc | apply pw_below_drewN | apply below_drew1 | refine below_set ?_ GE119.out) | exact HB.out))) (fun k_ h_ => h_)) (Kd.R_lt (by (with_reducible repeat (first | apply Kd.R_alloc | apply Kd.R_drewN | apply Kd.R_drew)); exact HO122.out))) (Kd.R_lt (by (with_reducible repeat (first | apply Kd.R_alloc | apply Kd.R_drewN | apply Kd.R_drew)); exact HO125.out))) (Kd.R_lt (by (with_reducible repeat (first | apply Kd.R_alloc | apply Kd.R_drewN | apply Kd.R_drew)); exact HO128.out))) (below_size (by repeat (first | (with_reducible first | exact HB.out | apply below_alloc | apply pw_below_drewN | apply below_drew1 | refine below_set ?_ GE119.out) | exact HB.out)))); have n4_ := Ak (blk_below (g := gb119) (o := .cells #[.int .i64 0, .slice none 0 0] 24 (0, 0)) (by (with_reducible repeat (first | refine blk_drewN ?_ _ | refine blk_drew ?_ | refine blk_alloc ?_ _)); exact BK119.out) hb); have n5_ := Ak (below_step (by repeat (first | (with_reducible first | exact HB.out | apply below_alloc | apply pw_below_drewN | apply below_drew1 | refine below_set ?_ GE119.out) | exact HB.out)) hb); clear HO122; clear HO125; clear HO128; clear BK119; clear HB; have HO122 := n0_; have HO125 := n1_; have HO128 := n2_; have HO131 := n3_; have BK119 := n4_; have HB := n5_; clear n0_ n1_ n2_ n3_ n4_ n5_; clear hb ho9; obtain ⟨Ao10, co10, eo10⟩ := Kd.R_slice HO122.out; subst eo10; obtain ⟨Ao11, co11, eo11⟩ := Kd.R_slice HO125.out; subst eo11; obtain ⟨Ao12, co12, eo12⟩ := Kd.R_slice HO128.out; subst eo12; obtain ⟨Ao13, co13, eo13⟩ := Kd.R_slice HO131.out; subst eo13) | ((with_reducible refine gate_dst (N := 5) rfl ?_); refine Kd.N_lit (Kd.slice 3 (Kd.int .i64)) _ 25 ?hg (N' := 5) ?hd (xs := ([y120, y123, y126, y129] : List (List Int))) (inner := [.slice Ao10 y120.length co10, .slice Ao11 y123.length co11, .slice Ao12 y126.length co12, .slice Ao13 y129.length co13]) (ok := (fun k_ => (w.heap.size ≤ k_) ∧ k_ ≠ gb119)) (okp := (fun k_ => (w.heap.size ≤ k_) ∧ k_ ≠ gb119)) ?hr ?hp (fun _ hk => hk) ((show ∀ k_, w8.heap.size ≤ k_ → (fun k_ => (w.heap.size ≤ k_) ∧ k_ ≠ gb119) k_ from fun k_ hk => ⟨(Nat.le_trans (below_size (by repeat (first | (with_reducible first | exact HB.out | apply below_alloc | apply pw_below_drewN | apply below_drew1 | refine below_set ?_ GE119.out) | exact HB.out))) hk), Kd.freshB (g := gb119) (o := .cells #[.int .i64 0, .slice none 0 0] 24 (0, 0)) (by (with_reducible repeat (first | refine blk_drewN ?_ _ | refine blk_drew ?_ | refine blk_alloc ?_ _)); exact BK119.out) k_ hk⟩) _ (Nat.le_refl _)) (Below.refl _ _) (Nat.le_refl _) (by simp) ?_; (case hd => rfl); (case hg => rfl); (case hr => first | (go_simp; done) | (go_simp; rfl)); (case hp => exact (Reps.one (show Kd.FK (Kd.slice 3 (Kd.int .i64)) _ _ y120 [.slice Ao10 y120.length co10] from (Kd.FK_slice_mk (Kd.R_reads' (Kd.R_mono (ok' := (fun k_ => (w.heap.size ≤ k_) ∧ k_ ≠ gb119)) (Kd.R_types (HO122.out) BK119.out (by decide)) (fun k_ hk => ⟨hk.1.1.1.1.1, hk.2⟩))).2.1 (Kd.R_F (Kd.R_mono (ok' := (fun k_ => (w.heap.size ≤ k_) ∧ k_ ≠ gb119)) (Kd.R_types (HO122.out) BK119.out (by decide)) (fun k_ hk => ⟨hk.1.1.1.1.1, hk.2⟩))))) (Reps.one (show Kd.FK (Kd.slice 3 (Kd.int .i64)) _ _ y123 [.slice Ao11 y123.length co11] from (Kd.FK_slice_mk (Kd.R_reads' (Kd.R_mono (ok' := (fun k_ => (w.heap.size ≤ k_) ∧ k_ ≠ gb119)) (Kd.R_types (HO125.out) BK119.out (by decide)) (fun k_ hk => ⟨hk.1.1.1.1.1, hk.2⟩))).2.1 (Kd.R_F (Kd.R_mono (ok' := (fun k_ => (w.heap.size ≤ k_) ∧ k_ ≠ gb119)) (Kd.R_types (HO125.out) BK119.out (by decide)) (fun k_ hk => ⟨hk.1.1.1.1.1, hk.2⟩))))) (Reps.one (show Kd.FK (Kd.slice 3 (Kd.int .i64)) _ _ y126 [.slice Ao12 y126.length co12] from (Kd.FK_slice_mk (Kd.R_reads' (Kd.R_mono (ok' := (fun k_ => (w.heap.size ≤ k_) ∧ k_ ≠ gb119)) (Kd.R_types (HO128.out) BK119.out (by decide)) (fun k_ hk => ⟨hk.1.1.1.1.1, hk.2⟩))).2.1 (Kd.R_F (Kd.R_mono (ok' := (fun k_ => (w.heap.size ≤ k_) ∧ k_ ≠ gb119)) (Kd.R_types (HO128.out) BK119.out (by decide)) (fun k_ hk => ⟨hk.1.1.1.1.1, hk.2⟩))))) (Reps.one (show Kd.FK (Kd.slice 3 (Kd.int .i64)) _ _ y129 [.slice Ao13 y129.length co13] from (Kd.FK_slice_mk (Kd.R_reads' (Kd.R_mono (ok' := (fun k_ => (w.heap.size ≤ k_) ∧ k_ ≠ gb119)) (Kd.R_types (HO131.out) BK119.out (by decide)) (fun k_ hk => ⟨hk.1.1.1.1.1, hk.2⟩))).2.1 (Kd.R_F (Kd.R_mono (ok' := (fun k_ => (w.heap.size ≤ k_) ∧ k_ ≠ gb119)) (Kd.R_types (HO131.out) BK119.out (by decide)) (fun k_ hk => ⟨hk.1.1.1.1.1, hk.2⟩))))) (Reps.none _ _)))))); intro v133 w14 ho15 hb hg_ hnew_; clear hg_ hnew_; (first | rw [← Ny132.out] at ho15 | (simp only [Int.reduceToNat] at ho15; rw [← Ny132.out] at ho15)); have n0_ := Ak (Kd.N_lower ho15 (below_size (by repeat (first | (with_reducible first | exact HB.out | apply below_alloc | apply pw_below_drewN | apply below_drew1 | refine below_set ?_ GE119.out) | exact HB.out)))); have n1_ := Ak (blk_below (g := gb119) (o := .cells #[.int .i64 0, .slice none 0 0] 24 (0, 0)) (by (with_reducible repeat (first | refine blk_drewN ?_ _ | refine blk_drew ?_ | refine blk_alloc ?_ _)); exact BK119.out) hb); have n2_ := Ak (below_step (by repeat (first | (with_reducible first | exact HB.out | apply below_alloc | apply pw_below_drewN | apply below_drew1 | refine below_set ?_ GE119.out) | exact HB.out)) hb); clear BK119; clear HB; clear HO122; clear HO125; clear HO128; clear HO131; have HO134 := n0_; have BK119 := n1_; have HB := n2_; clear n0_ n1_ n2_; clear hb ho15; obtain ⟨Ao16, co16, eo16⟩ := Kd.N_slice HO134.out; subst eo16; have hcz17_0 : w14.cell? ⟨gb119, 0, none⟩ = some (.int .i64 0) := (blk_cell BK119.out 0).trans rfl; have hcz17_1 : w14.cell? ⟨gb119, 1, none⟩ = some (.slice none 0 0) := (blk_cell BK119.out 1).trans rfl; have hfz17_0 := blk_frozen BK119.out 0; have hfz17_1 := blk_frozen BK119.out 1))
  refine bodyPost_ret (results_cell_row rfl _ _ gb119 24 #[.int .i64 3, .slice Ao16 y132.length co16] (0, 0) _ rfl (by (with_reducible repeat (first | refine blk_drewN ?_ _ | refine blk_drew ?_ | refine blk_alloc ?_ _)); refine blk_put (cs := #[.int .i64 3, .slice none 0 0]) ?_ 1 _ rfl; (with_reducible repeat (first | refine blk_drewN ?_ _ | refine blk_drew ?_ | refine blk_alloc ?_ _)); refine blk_put (cs := #[.int .i64 0, .slice none 0 0]) ?_ 0 _ rfl; (with_reducible repeat (first | refine blk_drewN ?_ _ | refine blk_drew ?_ | refine blk_alloc ?_ _)); exact BK119.out) Try.underlying24 rfl (by kernel_rfl)) rfl ?_
  exact ⟨_, by first | rfl | (simp [errW_none, errW_some] <;> rfl) | (simp [*, errW_none, errW_some] <;> rfl), by (with_reducible repeat (first | apply Kd.N_alloc | apply Kd.N_drewN | apply Kd.N_drew)); exact Kd.N_mono (Kd.N_far (p := ⟨gb119, 1, none⟩) (Kd.N_far (p := ⟨gb119, 0, none⟩) (Kd.N_mono HO134.out (fun k_ hk => (⟨hk, hk.2⟩ : _ ∧ k_ ≠ gb119))) (fun _ hk => hk.2) (.int .i64 3)) (fun _ hk => hk.2) (.slice Ao16 y132.length co16)) (fun _ hk => hk.1.1), by repeat (first | (with_reducible first | exact HB.out | apply below_alloc | apply pw_below_drewN | apply below_drew1 | refine below_set ?_ GE119.out) | exact HB.out)⟩
def cnf_fuelErr.f (a0 : Int) : Option (Int) := (cnf_within.f a0 0 20000).bind fun t135 => ((cnf_unless.f t135 2).bind fun t136 => (some t136))
set_option maxHeartbeats 8000000 in
set_option maxRecDepth 100000 in
theorem cnf_fuelErr.calls (a0 : Int) (r : Int) (w : World) (h : cnf_fuelErr.f a0 = some r) :
    Calls Try.prog 49 #[.int .i64 a0] w fun e w' => e = .returned (.int .i64 r) ∧ Drawn0 w w' := by
  have H : ((cnf_within.f a0 0 20000).bind fun t135 => ((cnf_unless.f t135 2).bind fun t136 => (some t136))) = some r := h
  clear h
  replace H := Option.bind_eq_some_iff.mp H
  obtain ⟨t135, A20, H⟩ := H
  replace H : ((cnf_unless.f t135 2).bind fun t136 => (some t136)) = some r := H
  have A2 := Ak A20
  clear A20
  replace H := Option.bind_eq_some_iff.mp H
  obtain ⟨t136, A30, H⟩ := H
  replace H : (some t136) = some r := H
  have A3 := Ak A30
  clear A30
  obtain rfl := Option.some.inj H
  go_enter Try.func49, Try.ntmps49
  go_wp2_with (first | ((with_reducible refine gate_callee (f := 38) rfl ?_); refine goesL_ (some 4) rfl rfl Try.func38 (by kernel_rfl) rfl #[.int .i64 a0, .int .i64 0, .int .i64 20000] rfl (by (try simp only [List.map_toArray, List.map_cons, List.map_nil]); first | done | rfl | (simp only [List.length_drop, List.length_take]; rfl)) ?_; (with_reducible refine (cnf_within.calls a0 0 20000 t135 _ A2.out).mono ?_); rintro e w' ⟨rfl, ⟨nd, rfl⟩⟩; refine ⟨_, rfl, ?_⟩) | ((with_reducible refine gate_callee (f := 37) rfl ?_); refine goesL_ (some 5) rfl rfl Try.func37 (by kernel_rfl) rfl #[.bool t135, .int .i64 2] rfl (by (try simp only [List.map_toArray, List.map_cons, List.map_nil]); first | done | rfl | (simp only [List.length_drop, List.length_take]; rfl)) ?_; (with_reducible refine (cnf_unless.calls t135 2 t136 _ A3.out).mono ?_); rintro e w' ⟨rfl, ⟨nd, rfl⟩⟩; refine ⟨_, rfl, ?_⟩))
  go_ret
  exact ⟨by first | rfl | (simp; done) | (simp [*]; done), by repeat (first | exact Drawn0.refl _ | apply Drawn0.step)⟩
def slices_Index_int_int.l0 : Nat → List Int → Int → Int → Int → Option (Int)
  | 0, _, _, _, _ => none
  | k + 1, x0, x1, x7, x8 => if x8 < x7 then (if 0 ≤ x8 then (if x8 < (x0.length : Int) then (if x1 = (rd x0 x8) then (some x8) else (slices_Index_int_int.l0 k x0 x1 x7 (wrap64 (x8 + 1)))) else (none)) else (none)) else (some (-1))
def slices_Index_int_int.f (k : Nat) (l0 : List Int) (a1 : Int) : Option (Int) := slices_Index_int_int.l0 k l0 a1 (l0.length : Int) 0
set_option maxHeartbeats 8000000 in
set_option maxRecDepth 100000 in
theorem slices_Index_int_int.calls (k : Nat) (A0 : Option Addr) (c0 : Nat) (l0 : List Int) (a1 : Int) (r : Int) (w : World) (hr0 : Kd.C (Kd.int .i64) w A0 l0.length l0) (hc0 : l0.length ≤ c0) (h : slices_Index_int_int.f k l0 a1 = some r) :
    Calls Try.prog 97 #[.slice A0 l0.length c0, .int .i64 a1] w fun e w' => e = .returned (.int .i64 r) ∧ Drawn0 w w' := by
  have HR0 := Ak hr0
  have HC0 := Ak hc0
  clear hr0 hc0
  have H : (slices_Index_int_int.l0 k l0 a1 (l0.length : Int) 0) = some r := h
  clear h
  have H' := Ak H
  clear H
  go_enter Try.func97, Try.ntmps97
  go_wp2
  go_loopg [8] k (fun kq v8 w' => ∃ (x8_1 : Int), v8 = .int .i64 x8_1 ∧ Aside0 (slices_Index_int_int.l0 kq l0 a1 (l0.length : Int) x8_1 = some r) ∧ Aside0 (kq ≤ k) ∧ Drawn0 w w')
  case atStart => exact ⟨(0), (by first | rfl | (simp; done) | (simp [*]; done)), H', ⟨Nat.le_refl _⟩, by repeat (first | exact Drawn0.refl _ | apply Drawn0.step)⟩
  case round =>
    clear H'
    try clear p2
    obtain ⟨x8_1, rfl, HA, HK1, ⟨m1, rfl⟩⟩ := hrel
    cases gk with
    | zero => exact absurd HA.out (by simp [slices_Index_int_int.l0])
    | succ k1 =>
      have H := HA.out
      clear HA
      simp only [slices_Index_int_int.l0] at H
      by_cases c3 : x8_1 < (l0.length : Int)
      · rw [if_pos c3] at H
        have c3b0 : decide (x8_1 < (l0.length : Int)) = true := decide_eq_true c3
        clear c3
        by_cases c4 : 0 ≤ x8_1
        · rw [if_pos c4] at H
          have c4b0 : decide (0 ≤ x8_1) = true := decide_eq_true c4
          clear c4
          by_cases c5 : x8_1 < (l0.length : Int)
          · rw [if_pos c5] at H
            have c5b0 : decide (x8_1 < (l0.length : Int)) = true := decide_eq_true c5
            clear c5
            by_cases c6 : a1 = (rd l0 x8_1)
            · rw [if_pos c6] at H
              have c6b0 : (a1 == (rd l0 x8_1)) = true := beq_iff_eq.mpr c6
              have c6b1 : (a1 != (rd l0 x8_1)) = false := bne_eq_false_iff_eq.mpr c6
              clear c6
              obtain rfl := Option.some.inj H
              have p137 : 0 ≤ (x8_1 : Int) := of_decide_eq_true (by first | (with_reducible assumption) | assumption)
              have q137 : x8_1 < (l0.length : Int) := of_decide_eq_true (by first | (with_reducible assumption) | assumption)
              obtain ⟨ad137, e137, hx137_0⟩ := Kd.at_int HR0.out x8_1 p137 q137
              cases e137
              replace p137 := eq_true p137
              replace q137 := eq_true q137
              go_wp2
              go_ret
              exact ⟨by first | rfl | (simp; done) | (simp [*]; done), by repeat (first | exact Drawn0.refl _ | apply Drawn0.step)⟩
            · rw [if_neg c6] at H
              have c6b0 : (a1 == (rd l0 x8_1)) = false := beq_eq_false_iff_ne.mpr c6
              have c6b1 : (a1 != (rd l0 x8_1)) = true := bne_iff_ne.mpr c6
              have H' := Ak H
              clear H
              have p137 : 0 ≤ (x8_1 : Int) := of_decide_eq_true (by first | (with_reducible assumption) | assumption)
              have q137 : x8_1 < (l0.length : Int) := of_decide_eq_true (by first | (with_reducible assumption) | assumption)
              obtain ⟨ad137, e137, hx137_0⟩ := Kd.at_int HR0.out x8_1 p137 q137
              cases e137
              replace p137 := eq_true p137
              replace q137 := eq_true q137
              go_wp2
              go_roundg k1
              case measure => have := HK1.out; omega
              case rel => exact ⟨(wrap64 (x8_1 + 1)), (by first | rfl | (simp; done) | (simp [*]; done)), H', ⟨by have := HK1.out; omega⟩, by repeat (first | exact Drawn0.refl _ | apply Drawn0.step)⟩
          · rw [if_neg c5] at H
            exact absurd H (by simp)
        · rw [if_neg c4] at H
          exact absurd H (by simp)
      · rw [if_neg c3] at H
        have c3b0 : decide (x8_1 < (l0.length : Int)) = false := decide_eq_false c3
        clear c3
        obtain rfl := Option.some.inj H
        go_wp2
        go_ret
        exact ⟨by first | rfl | (simp; done) | (simp [*]; done), by repeat (first | exact Drawn0.refl _ | apply Drawn0.step)⟩
def slices_Contains_int_int.f (k : Nat) (l0 : List Int) (a1 : Int) : Option (Bool) := (slices_Index_int_int.f k l0 a1).bind fun t138 => (some (decide (t138 ≥ 0)))
set_option maxHeartbeats 8000000 in
set_option maxRecDepth 100000 in
theorem slices_Contains_int_int.calls (k : Nat) (A0 : Option Addr) (c0 : Nat) (l0 : List Int) (a1 : Int) (r : Bool) (w : World) (hr0 : Kd.C (Kd.int .i64) w A0 l0.length l0) (hc0 : l0.length ≤ c0) (h : slices_Contains_int_int.f k l0 a1 = some r) :
    Calls Try.prog 93 #[.slice A0 l0.length c0, .int .i64 a1] w fun e w' => e = .returned (.bool r) ∧ Drawn0 w w' := by
  have HR0 := Ak hr0
  have HC0 := Ak hc0
  clear hr0 hc0
  have H : ((slices_Index_int_int.f k l0 a1).bind fun t138 => (some (decide (t138 ≥ 0)))) = some r := h
  clear h
  replace H := Option.bind_eq_some_iff.mp H
  obtain ⟨t138, A30, H⟩ := H
  replace H : (some (decide (t138 ≥ 0))) = some r := H
  have A3 := Ak A30
  clear A30
  obtain rfl := Option.some.inj H
  go_enter Try.func93, Try.ntmps93
  go_wp2_with (first | ((with_reducible refine gate_callee (f := 97) rfl ?_); refine goesL_ (some 7) rfl rfl Try.func97 (by kernel_rfl) rfl #[.slice A0 l0.length c0, .int .i64 a1] rfl (by (try simp only [List.map_toArray, List.map_cons, List.map_nil]); first | done | rfl | (simp only [List.length_drop, List.length_take]; rfl)) ?_; (with_reducible refine (slices_Index_int_int.calls k _ _ l0 a1 t138 _ ?side1 ?side2 A3.out).mono ?_); (case side1 => repeat (first | exact HR0.out | (with_reducible refine Kd.C_alloc ?_ _) | (with_reducible refine Kd.C_drewN ?_ _) | (with_reducible refine Kd.C_drew ?_))); (case side2 => exact HC0.out); rintro e w' ⟨rfl, ⟨nd, rfl⟩⟩; refine ⟨_, rfl, ?_⟩))
  go_ret
  exact ⟨by first | rfl | (simp; done) | (simp [*]; done), by repeat (first | exact Drawn0.refl _ | apply Drawn0.step)⟩
def cnf_has.f (k : Nat) (l0 : List Int) (a1 : Int) : Option (Bool) := (slices_Contains_int_int.f k l0 a1).bind fun t139 => (some t139)
set_option maxHeartbeats 8000000 in
set_option maxRecDepth 100000 in
theorem cnf_has.calls (k : Nat) (A0 : Option Addr) (c0 : Nat) (l0 : List Int) (a1 : Int) (r : Bool) (w : World) (hr0 : Kd.C (Kd.int .i64) w A0 l0.length l0) (hc0 : l0.length ≤ c0) (h : cnf_has.f k l0 a1 = some r) :
    Calls Try.prog 79 #[.slice A0 l0.length c0, .int .i64 a1] w fun e w' => e = .returned (.bool r) ∧ Drawn0 w w' := by
  have HR0 := Ak hr0
  have HC0 := Ak hc0
  clear hr0 hc0
  have H : ((slices_Contains_int_int.f k l0 a1).bind fun t139 => (some t139)) = some r := h
  clear h
  replace H := Option.bind_eq_some_iff.mp H
  obtain ⟨t139, A30, H⟩ := H
  replace H : (some t139) = some r := H
  have A3 := Ak A30
  clear A30
  obtain rfl := Option.some.inj H
  go_enter Try.func79, Try.ntmps79
  go_wp2_with (first | ((with_reducible refine gate_callee (f := 93) rfl ?_); refine goesL_ (some 7) rfl rfl Try.func93 (by kernel_rfl) rfl #[.slice A0 l0.length c0, .int .i64 a1] rfl (by (try simp only [List.map_toArray, List.map_cons, List.map_nil]); first | done | rfl | (simp only [List.length_drop, List.length_take]; rfl)) ?_; (with_reducible refine (slices_Contains_int_int.calls k _ _ l0 a1 t139 _ ?side1 ?side2 A3.out).mono ?_); (case side1 => repeat (first | exact HR0.out | (with_reducible refine Kd.C_alloc ?_ _) | (with_reducible refine Kd.C_drewN ?_ _) | (with_reducible refine Kd.C_drew ?_))); (case side2 => exact HC0.out); rintro e w' ⟨rfl, ⟨nd, rfl⟩⟩; refine ⟨_, rfl, ?_⟩))
  go_ret
  exact ⟨by first | rfl | (simp; done) | (simp [*]; done), by repeat (first | exact Drawn0.refl _ | apply Drawn0.step)⟩
end Go.Proofs.Ytapbkoolddnjgaa.PA
