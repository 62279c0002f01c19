/- What the claim needs of PAx9: lemmas and contracts, cut by a program to what is used. -/
import Derived.Test.YtapbkoolddnjgaaQfPAx0
import Derived.Test.YtapbkoolddnjgaaQfPAx1
import Derived.Test.YtapbkoolddnjgaaQfPAx3
import Derived.Test.YtapbkoolddnjgaaQfPAx8
namespace Go.Proofs.Ytapbkoolddnjgaa.PA
open Go.RowKit Go.Proofs.YtapbkoolddnjgaaW.PrintWords Go.Proofs.YtapbkoolddnjgaaW.PrintLast Go.Proofs.YtapbkoolddnjgaaW.PrintMore Go.Proofs.Sl
attribute [local go_sem] max2_int min2_int max_two min_two max_three min_three max_four min_four
set_option linter.unusedVariables false
set_option linter.unusedSimpArgs false
def rvStep (v : Int) (out : List Int) (n : Int) : List Int := if mx n (wrap64 (-n)) = v ∨ out.contains n = true then out else out ++ [n]
def rvRow (a b : List Int) (v : Int) : List Int := b.foldl (rvStep v) (a.foldl (rvStep v) [])
theorem index_l0 (n : Int) (l : List Int) (hlen : l.length ≤ 1000000) : ∀ (d i k : Nat), i + d = l.length → d < k → slices_Index_int_int.l0 k l n (l.length : Int) (i : Int) = some (findFrom (fun y => decide (n = y)) i (l.drop i)) := by
  intro d
  induction d with
  | zero =>
    intro i k hi hk
    obtain ⟨k, rfl⟩ : ∃ m, k = m + 1 := ⟨k - 1, by omega⟩
    rw [List.drop_of_length_le (by omega)]
    simp only [slices_Index_int_int.l0]
    rw [if_neg (by omega)]
    rfl
  | succ d ih =>
    intro i k hi hk
    obtain ⟨k, rfl⟩ : ∃ m, k = m + 1 := ⟨k - 1, by omega⟩
    have hlt : i < l.length := by omega
    have hd : l.drop i = rd l (i : Int) :: l.drop (i + 1) := by rw [List.drop_eq_getElem_cons hlt]; simp [rd, hlt]
    have hw : wrap64 ((i : Int) + 1) = ((i + 1 : Nat) : Int) := by unfold wrap64; omega
    rw [hd]
    simp only [slices_Index_int_int.l0]
    rw [if_pos (by omega), if_pos (by omega), if_pos (by omega)]
    unfold findFrom
    by_cases h : n = rd l (i : Int)
    · rw [if_pos h, if_pos (by simpa using h)]
    · rw [if_neg h, if_neg (by simpa using h), hw]
      exact ih (i + 1) k (by omega) (by omega)
theorem has_f (l : List Int) (n : Int) (hlen : l.length ≤ 1000000) : cnf_has.f (l.length + 1) l n = some (l.contains n) := by
  have h := index_l0 n l hlen l.length 0 (l.length + 1) (by omega) (by omega)
  unfold cnf_has.f slices_Contains_int_int.f slices_Index_int_int.f
  rw [List.drop_zero] at h
  rw [show ((0 : Nat) : Int) = 0 from rfl] at h
  rw [h]
  simp only [Option.bind_some]
  rw [findFrom_any]
  congr 1
  clear h hlen
  induction l with
  | nil => rfl
  | cons y l ih =>
    rw [List.any_cons, List.contains_cons, ih]
    rfl
theorem row_holds_ {w0 w : World} {L : List Asn} {B : Nat} {e : TypeId} {v : Value} {xs : List Int} (h : St w0 w L) {i : Nat} (hi : L[i]? = some (row B (Kd.int .i64) e v xs)) (hp : 0 < xs.length) :
    ∃ g c, v = .slice (some ⟨g, 0, none⟩) xs.length c ∧ Go.Sort.Holds (Value.int .i64) w g 0 xs.toArray := by
  obtain ⟨F, hF, _⟩ := h.holds hi
  have ho := Kd.own_of_R hF.1
  obtain ⟨hlen, h2⟩ := ho
  rcases h2 with ⟨he, h0⟩ | ⟨g', cap, cur, he, hb, hh, hnc, hcm, hcs, ht⟩
  · exfalso; have := h0; simp_all
  · exact ⟨g', cap, he, holds_of_blockI hh (by rw [Nat.mul_one] at ht; exact ht)⟩
theorem sort94_list (g c : Nat) (l : List Int) (w : World) (hH : Go.Sort.Holds (Value.int .i64) w g 0 l.toArray) (h0 : 0 < l.length) (h12 : l.length ≤ 12) :
    Calls Try.prog 94 #[.slice (some ⟨g, 0, none⟩) l.length c, .func (.func 95) #[] #[]] w fun e w' => e = .returned (.tuple #[]) ∧ ∃ n, w' = (Go.Sort.putRow (Value.int .i64) w g 0 (sortedByVar l).toArray).drewN n := by
  have := Try.sort94 g 0 c l.toArray w hH (by simpa using h12)
  rw [sortedByVar_ins l h0, List.size_toArray] at this
  exact this
set_option maxHeartbeats 8000000 in
set_option maxRecDepth 100000 in
theorem resolvent88 (A0 : Option Addr) (c0 : Nat) (l0 : List Int) (A1 : Option Addr) (c1 : Nat) (l1 : List Int) (v : Int) (w : World) (hr0 : Kd.C (Kd.int .i64) w A0 l0.length l0) (hc0 : l0.length ≤ c0) (hr1 : Kd.C (Kd.int .i64) w A1 l1.length l1) (hc1 : l1.length ≤ c1)
    (h0 : l0.length ≤ 100000) (h1 : l1.length ≤ 100000) (h12 : (rvRow l0 l1 v).length ≤ 12) :
    Calls Try.prog 88 #[.slice A0 l0.length c0, .slice A1 l1.length c1, .int .i64 v] w fun e w' => ∃ u, e = .returned u ∧ Kd.R (Kd.int .i64) 3 w' w.heap.size (fun _ => True) u (sortedByVar (rvRow l0 l1 v)) ∧ Below w.heap.size w w' := by
  generalize hrr : rvRow l0 l1 v = rr at h12
  have HRR := Ak hrr
  unfold rvRow at hrr
  have HR0 := Ak hr0; have HR1 := Ak hr1
  have H0 := Ak ((St.start w).row_nil (Kd.int .i64) 3)
  have x0 : ∀ w : World, (Instr.index 120 (.agg #[.slice A0 l0.length c0, .slice A1 l1.length c1]) (.int .i64 0)).run Try.prog w = .ok (.slice A0 l0.length c0) w := fun _ => by kernel_rfl
  have x1 : ∀ w : World, (Instr.index 120 (.agg #[.slice A0 l0.length c0, .slice A1 l1.length c1]) (.int .i64 1)).run Try.prog w = .ok (.slice A1 l1.length c1) w := fun _ => by kernel_rfl
  clear hr0 hr1 hrr
  go_enter Try.func88, Try.ntmps88
  go_wp2
  go_loopg [7, 15] 2 (fun kq v7 v15 wr => ∃ (j : Nat) (out : List Int), v15 = .int .i64 (j : Int) ∧ ((j = 0 ∧ kq = 2 ∧ Aside0 (out = [])) ∨ (j = 1 ∧ kq = 1 ∧ Aside0 (out = l0.foldl (rvStep v) [])) ∨ (j = 2 ∧ kq = 0 ∧ Aside0 (out = rr))) ∧ Aside0 (out.length ≤ j * 100000) ∧ Aside0 (St w wr [row w.heap.size (Kd.int .i64) 3 v7 out]))
  case atStart => exact ⟨0, [], rfl, .inl ⟨rfl, rfl, ⟨rfl⟩⟩, ⟨by simp⟩, H0⟩
  case round =>
    obtain ⟨j, out, rfl, hj, HL, H1⟩ := hrel
    clear H0
    rcases hj with ⟨rfl, rfl, HO⟩ | ⟨rfl, rfl, HO⟩ | ⟨rfl, rfl, HO⟩
    · have HT : Aside0 (l0.foldl (rvStep v) out = l0.foldl (rvStep v) []) := ⟨by rw [HO.out]⟩
      have HR := HR0
      go_wp2
      go_loopg [7, 20] l0.length (fun kq v7 v20 wr => ∃ (i : Nat) (o : List Int), v20 = .int .i64 (i : Int) ∧ Aside0 (i + kq = l0.length) ∧ Aside0 ((l0.drop i).foldl (rvStep v) o = l0.foldl (rvStep v) []) ∧ Aside0 (o.length ≤ 0 * 100000 + i) ∧ Aside0 (St w wr [row w.heap.size (Kd.int .i64) 3 v7 o]))
      case atStart => exact ⟨0, out, rfl, ⟨by omega⟩, ⟨by rw [List.drop_zero]; exact HT.out⟩, ⟨HL.out⟩, H1⟩
      case round =>
        obtain ⟨i, o, rfl, HI, HF, HB, H2⟩ := hrel
        clear H1 HT
        by_cases hi : i < l0.length
        · have hi0 : (0 : Int) ≤ (i : Int) := by omega
          have hi1 : (i : Int) < (l0.length : Int) := by omega
          obtain ⟨ad, rfl, hx⟩ := Kd.at_int (Kd.C_below HR.out H2.out.below) (i : Int) hi0 hi1
          rw [Int.toNat_natCast] at hx
          have hd : l0.drop i = rd l0 (i : Int) :: l0.drop (i + 1) := by
            rw [List.drop_eq_getElem_cons hi]; simp [rd, hi]
          have hf := HF.out; rw [hd] at hf
          generalize rd l0 (i : Int) = n at hx hf
          have hf2 : (l0.drop (i + 1)).foldl (rvStep v) (rvStep v o n) = l0.foldl (rvStep v) [] := hf
          have HF2 := Ak hf2
          clear hf hf2 hd HF
          obtain ⟨A7, c7, rfl, hc7, _⟩ := H2.out.row_reads (i := 0) rfl
          obtain ⟨m, hm⟩ : ∃ m, m = mx n (wrap64 (-n)) := ⟨_, rfl⟩
          go_wp2_with fail
          refine (cnf_variable.calls n m _ (by rw [hm]; rfl)).mono ?_
          clear hx
          rintro e w1 ⟨rfl, hb⟩
          have H3 := Ak (H2.out.mv hb); clear hb H2
          by_cases hmv : m = v
          · have hs : rvStep v o n = o := by unfold rvStep; rw [if_pos (.inl (by rw [← hm]; exact hmv))]
            have hf := HF2.out; rw [hs] at hf
            have HF3 := Ak hf
            have hm0 : (m != v) = false := bne_eq_false_iff_eq.2 hmv
            clear hm hmv hs hf HF2
            go_wp2
            go_roundg (gk - 1)
            case measure => have := HI.out; omega
            case rel => exact ⟨i + 1, o, by go_num, ⟨by have := HI.out; omega⟩, HF3, ⟨by have := HB.out; omega⟩, H3⟩
          · have hm0 : (m != v) = true := bne_iff_ne.2 hmv
            have hol : o.length ≤ 1000000 := by have := HB.out; omega
            have hhas := has_f o n hol
            have hstep : rvStep v o n = if o.contains n = true then o else o ++ [n] := by
              unfold rvStep
              by_cases h : o.contains n = true
              · rw [if_pos (.inr h), if_pos h]
              · rw [if_neg (by rintro (h2 | h2); exact hmv (by rw [hm]; exact h2); exact h h2), if_neg h]
            have hf := HF2.out; rw [hstep] at hf
            obtain ⟨A8, c8, e8, _, hC8⟩ := H3.out.row_reads (i := 0) rfl
            injection e8 with e81 e82 e83
            subst e81; subst e83
            have hcall := fun W (hW : Kd.C (Kd.int .i64) W A7 o.length o) => cnf_has.calls (o.length + 1) A7 c7 o n (o.contains n) W hW hc7 hhas
            generalize o.contains n = b at hf hcall
            have HF4 := Ak hf; have HCALL := Ak hcall; have HC8 := Ak hC8
            clear hf hcall hhas hstep hm hmv HF2 e82 hC8
            go_wp2_with fail
            refine (HCALL.out _ HC8.out).mono ?_
            rintro e w2 ⟨rfl, hb⟩
            have H4 := Ak (H3.out.mv hb.below); clear hb H3
            cases b with
            | true =>
              have HF5 := Ak (show (l0.drop (i + 1)).foldl (rvStep v) o = l0.foldl (rvStep v) [] from HF4.out)
              clear HF4
              go_wp2
              go_roundg (gk - 1)
              case measure => have := HI.out; omega
              case rel => exact ⟨i + 1, o, by go_num, ⟨by have := HI.out; omega⟩, HF5, ⟨by have := HB.out; omega⟩, H4⟩
            | false =>
              have HF5 := Ak (show (l0.drop (i + 1)).foldl (rvStep v) (o ++ [n]) = l0.foldl (rvStep v) [] from HF4.out)
              have hbd : (o.length + 1) * 8 ≤ 140737488355328 := by omega
              have HBD := Ak hbd
              clear HF4 hbd
              go_wp2_with (at_builtin; refine st_append_int (k := .i64) (e := 3) (xs := o) (y := n) H4.out (i := 0) rfl rfl (.tmp 34) (.tmp 36) 25 8 rfl Try.underlying25 info3 (by decide) rfl rfl HBD.out ?_; intro v9 w9 hs9; have H5 := Ak hs9; clear hs9 H4)
              go_roundg (gk - 1)
              case measure => have := HI.out; omega
              case rel => exact ⟨i + 1, o ++ [n], by go_num, ⟨by have := HI.out; omega⟩, HF5, ⟨by have := HB.out; simp; omega⟩, H5⟩
        · have hi1 : ¬ (i : Int) < (l0.length : Int) := by omega
          have hf := HF.out; rw [List.drop_of_length_le (by omega)] at hf
          have HF2 := Ak (show o = l0.foldl (rvStep v) [] from hf)
          clear hf HF
          go_wp2
          go_roundg 1
          case measure => omega
          case rel => exact ⟨1, o, by go_num, .inr (.inl ⟨rfl, rfl, HF2⟩), ⟨by have := HB.out; have := HI.out; omega⟩, H2⟩
    · have HT : Aside0 (l1.foldl (rvStep v) out = rr) := ⟨by rw [HO.out]; exact HRR.out⟩
      have HR := HR1
      go_wp2
      go_loopg [7, 20] l1.length (fun kq v7 v20 wr => ∃ (i : Nat) (o : List Int), v20 = .int .i64 (i : Int) ∧ Aside0 (i + kq = l1.length) ∧ Aside0 ((l1.drop i).foldl (rvStep v) o = rr) ∧ Aside0 (o.length ≤ 1 * 100000 + i) ∧ Aside0 (St w wr [row w.heap.size (Kd.int .i64) 3 v7 o]))
      case atStart => exact ⟨0, out, rfl, ⟨by omega⟩, ⟨by rw [List.drop_zero]; exact HT.out⟩, ⟨HL.out⟩, H1⟩
      case round =>
        obtain ⟨i, o, rfl, HI, HF, HB, H2⟩ := hrel
        clear H1 HT
        by_cases hi : i < l1.length
        · have hi0 : (0 : Int) ≤ (i : Int) := by omega
          have hi1 : (i : Int) < (l1.length : Int) := by omega
          obtain ⟨ad, rfl, hx⟩ := Kd.at_int (Kd.C_below HR.out H2.out.below) (i : Int) hi0 hi1
          rw [Int.toNat_natCast] at hx
          have hd : l1.drop i = rd l1 (i : Int) :: l1.drop (i + 1) := by
            rw [List.drop_eq_getElem_cons hi]; simp [rd, hi]
          have hf := HF.out; rw [hd] at hf
          generalize rd l1 (i : Int) = n at hx hf
          have hf2 : (l1.drop (i + 1)).foldl (rvStep v) (rvStep v o n) = rr := hf
          have HF2 := Ak hf2
          clear hf hf2 hd HF
          obtain ⟨A7, c7, rfl, hc7, _⟩ := H2.out.row_reads (i := 0) rfl
          obtain ⟨m, hm⟩ : ∃ m, m = mx n (wrap64 (-n)) := ⟨_, rfl⟩
          go_wp2_with fail
          refine (cnf_variable.calls n m _ (by rw [hm]; rfl)).mono ?_
          clear hx
          rintro e w1 ⟨rfl, hb⟩
          have H3 := Ak (H2.out.mv hb); clear hb H2
          by_cases hmv : m = v
          · have hs : rvStep v o n = o := by unfold rvStep; rw [if_pos (.inl (by rw [← hm]; exact hmv))]
            have hf := HF2.out; rw [hs] at hf
            have HF3 := Ak hf
            have hm0 : (m != v) = false := bne_eq_false_iff_eq.2 hmv
            clear hm hmv hs hf HF2
            go_wp2
            go_roundg (gk - 1)
            case measure => have := HI.out; omega
            case rel => exact ⟨i + 1, o, by go_num, ⟨by have := HI.out; omega⟩, HF3, ⟨by have := HB.out; omega⟩, H3⟩
          · have hm0 : (m != v) = true := bne_iff_ne.2 hmv
            have hol : o.length ≤ 1000000 := by have := HB.out; omega
            have hhas := has_f o n hol
            have hstep : rvStep v o n = if o.contains n = true then o else o ++ [n] := by
              unfold rvStep
              by_cases h : o.contains n = true
              · rw [if_pos (.inr h), if_pos h]
              · rw [if_neg (by rintro (h2 | h2); exact hmv (by rw [hm]; exact h2); exact h h2), if_neg h]
            have hf := HF2.out; rw [hstep] at hf
            obtain ⟨A8, c8, e8, _, hC8⟩ := H3.out.row_reads (i := 0) rfl
            injection e8 with e81 e82 e83
            subst e81; subst e83
            have hcall := fun W (hW : Kd.C (Kd.int .i64) W A7 o.length o) => cnf_has.calls (o.length + 1) A7 c7 o n (o.contains n) W hW hc7 hhas
            generalize o.contains n = b at hf hcall
            have HF4 := Ak hf; have HCALL := Ak hcall; have HC8 := Ak hC8
            clear hf hcall hhas hstep hm hmv HF2 e82 hC8
            go_wp2_with fail
            refine (HCALL.out _ HC8.out).mono ?_
            rintro e w2 ⟨rfl, hb⟩
            have H4 := Ak (H3.out.mv hb.below); clear hb H3
            cases b with
            | true =>
              have HF5 := Ak (show (l1.drop (i + 1)).foldl (rvStep v) o = rr from HF4.out)
              clear HF4
              go_wp2
              go_roundg (gk - 1)
              case measure => have := HI.out; omega
              case rel => exact ⟨i + 1, o, by go_num, ⟨by have := HI.out; omega⟩, HF5, ⟨by have := HB.out; omega⟩, H4⟩
            | false =>
              have HF5 := Ak (show (l1.drop (i + 1)).foldl (rvStep v) (o ++ [n]) = rr from HF4.out)
              have hbd : (o.length + 1) * 8 ≤ 140737488355328 := by omega
              have HBD := Ak hbd
              clear HF4 hbd
              go_wp2_with (at_builtin; refine st_append_int (k := .i64) (e := 3) (xs := o) (y := n) H4.out (i := 0) rfl rfl (.tmp 34) (.tmp 36) 25 8 rfl Try.underlying25 info3 (by decide) rfl rfl HBD.out ?_; intro v9 w9 hs9; have H5 := Ak hs9; clear hs9 H4)
              go_roundg (gk - 1)
              case measure => have := HI.out; omega
              case rel => exact ⟨i + 1, o ++ [n], by go_num, ⟨by have := HI.out; omega⟩, HF5, ⟨by have := HB.out; simp; omega⟩, H5⟩
        · have hi1 : ¬ (i : Int) < (l1.length : Int) := by omega
          have hf := HF.out; rw [List.drop_of_length_le (by omega)] at hf
          have HF2 := Ak (show o = rr from hf)
          clear hf HF
          go_wp2
          go_roundg 0
          case measure => omega
          case rel => exact ⟨2, o, by go_num, .inr (.inr ⟨rfl, rfl, HF2⟩), ⟨by have := HB.out; have := HI.out; omega⟩, H2⟩
    · have hrl : rr.length ≤ 12 := h12
      have hout := HO.out
      clear h12
      by_cases hz : 0 < out.length
      · obtain ⟨g, c7, rfl, hH⟩ := row_holds_ H1.out (i := 0) rfl hz
        have HH := Ak hH; clear hH
        have hlen : out.length ≤ 12 := by rw [hout]; exact hrl
        have HLN := Ak hlen; have HZ := Ak hz
        clear hlen hz hout
        go_wp2_with fail
        with_reducible refine (sort94_list g c7 out _ HH.out HZ.out HLN.out).mono ?_
        rintro e w1 ⟨rfl, n, rfl⟩
        have H2 := Ak (H1.out.row_sorted (i := 0) rfl (sortedByVar_len out) n)
        clear H1 HH
        generalize World.drewN _ n = w1 at H2 ⊢
        go_wp2
        go_ret
        rw [← HO.out]
        refine ⟨_, rfl, ?_, H2.out.below⟩
        have := H2.out.row_out (i := 0) rfl
        exact this
      · have h0 : out = [] := by cases out with
          | nil => rfl
          | cons x l => simp at hz
        obtain ⟨A7, c7, rfl, hc7, _⟩ := H1.out.row_reads (i := 0) rfl
        have HZ := Ak h0
        clear hz hout
        go_wp2_with fail
        with_reducible refine (Try.sort94_nil A7 c7 _ _).mono ?_
        rintro e w1 ⟨rfl, rfl⟩
        go_wp2
        go_ret
        have hs : sortedByVar rr = out := by rw [← HO.out, HZ.out]; rfl
        rw [hs]
        refine ⟨_, rfl, ?_, H1.out.below⟩
        have := H1.out.row_out (i := 0) rfl
        rw [HZ.out] at this
        rw [HZ.out]
        exact this
set_option maxHeartbeats 8000000 in
set_option maxRecDepth 100000 in
theorem explained69 (s : Sv) (i : Int) (fx : Fx) (g : Nat) (w : World) (R : List Asn) (h : IsSv fx w g s R) (hok : s.Ok) :
    Calls Try.prog 69 #[.pointer (some ⟨g, 0, none⟩), .int .i64 i] w fun e w' => e = .returned (.int .i64 i) ∧ IsSv fx w' g s R := by
  obtain ⟨vV, tV, rV, h⟩ := h
  simp only [SvL, List.cons_append, List.nil_append] at h
  have hu82 := Try.underlying82
  obtain ⟨At, ct, rfl, hct, _⟩ := h.row_reads (i := 3) rfl
  have c4 := h.box_cell (i := 0) rfl 4
  have c10 := h.box_cell (i := 0) rfl 10
  simp only [List.getElem?_toArray, List.getElem?_cons_zero, List.getElem?_cons_succ] at c4 c10
  have htl := hok.trail_le
  have H : Aside0 (IsSv fx w g s R) := ⟨_, _, _, h⟩
  have C10 := Ak c10
  clear h hok
  go_enter Try.func69, Try.ntmps69
  go_wp2
  clear c4 c10
  go_loopg [1, 5] 1 (fun kq v1 v5 wr => v1 = .int .i64 i ∧ v5 = .int .i64 ((s.trail.length : Int) - 1) ∧ Aside0 (kq = 1) ∧ Aside0 (wr = w))
  case atStart => exact ⟨rfl, by go_num, ⟨rfl⟩, ⟨rfl⟩⟩
  case round =>
    obtain ⟨rfl, rfl, HK, HW⟩ := hrel
    have hw := HW.out
    subst hw
    have c10 := C10.out
    by_cases hz : s.trail.length = 0
    · have h0 : ¬ (0 : Int) ≤ (s.trail.length : Int) - 1 := by omega
      go_wp2
      go_ret
      exact ⟨rfl, H.out⟩
    · have h0 : (0 : Int) ≤ (s.trail.length : Int) - 1 := by omega
      go_wp2
      go_ret
      exact ⟨rfl, H.out⟩
end Go.Proofs.Ytapbkoolddnjgaa.PA
