/- What the claim needs of PAx6: lemmas and contracts, cut by a program to what is used. -/
import Derived.Test.YtapbkoolddnjgaaQfPAx0
import Derived.Test.YtapbkoolddnjgaaQfPAx1
import Derived.Test.YtapbkoolddnjgaaQfPAx3
import Derived.Test.YtapbkoolddnjgaaQfPAx4
namespace Go.Proofs.Ytapbkoolddnjgaa.PA
open Go.RowKit Go.Proofs.YtapbkoolddnjgaaW.PrintWords Go.Proofs.YtapbkoolddnjgaaW.PrintLast Go.Proofs.YtapbkoolddnjgaaW.PrintMore Go.Proofs.Sl
attribute [local go_sem] max2_int min2_int max_two min_two max_three min_three max_four min_four
set_option linter.unusedVariables false
set_option linter.unusedSimpArgs false
section
variable {w0 w w' : World} {L : List Asn}
theorem _root_.Go.Proofs.Sl.St.row_take {α : Type} {d : Kd α} {e : TypeId} {A : Option Addr} {n c : Nat} {xs : List α} (h : St w0 w L) {i : Nat} (hi : L[i]? = some (row w0.heap.size d e (.slice A n c) xs)) (m : Nat) (hm : m ≤ xs.length) :
    St w0 w (L.set i (row w0.heap.size d e (.slice A m c) (xs.take m))) :=
  h.upd hi _ rfl rfl rfl (Nat.le_refl _) (fun F1 hF _ => ⟨F1, ⟨Kd.R_take hF.1 hm, hF.2⟩, fun b hb => .inl hb, fun _ _ _ => rfl⟩)
theorem _root_.Go.Proofs.Sl.St.row_set {k : IntKind} {e : TypeId} {g c : Nat} {xs : List Int} (h : St w0 w L) {i : Nat} (hi : L[i]? = some (row w0.heap.size (Kd.int k) e (.slice (some ⟨g, 0, none⟩) xs.length c) xs)) (j : Int) (x : Int) :
    St w0 (w.setCell ⟨g, j.toNat, none⟩ (.int k x)) (L.set i (row w0.heap.size (Kd.int k) e (.slice (some ⟨g, 0, none⟩) xs.length c) (xs.set j.toNat x))) := by
  refine h.upd hi _ rfl rfl rfl (by simp [World.setCell]) (fun F1 hF _ => ⟨F1, ⟨(Kd.R_put (enc := Value.int k) hF.1 j x).1, fun b hb => by have := hF.2 b hb; simpa [World.setCell] using this⟩, fun b hb => .inl hb, fun b _ hn => Below.heap_setCell w _ _ b (fun e => hn ?_)⟩)
  subst e; exact hF.1.1 _ rfl
theorem _root_.Go.Proofs.Sl.St.row_form {α : Type} {d : Kd α} {e : TypeId} {v : Value} {xs : List α} (h : St w0 w L) {i : Nat} (hi : L[i]? = some (row w0.heap.size d e v xs)) (hp : 0 < xs.length) : ∃ g c, v = .slice (some ⟨g, 0, none⟩) xs.length c := by
  obtain ⟨F, hF, _⟩ := h.holds hi
  obtain ⟨g, c, he, _⟩ := Kd.R_form hF.1 hp
  exact ⟨g, c, he⟩
theorem _root_.Go.Proofs.Sl.St.row_cell {k : IntKind} {e : TypeId} {g c : Nat} {xs : List Int} (h : St w0 w L) {i : Nat} (hi : L[i]? = some (row w0.heap.size (Kd.int k) e (.slice (some ⟨g, 0, none⟩) xs.length c) xs)) (j : Int) (h0 : 0 ≤ j) (h1 : j < xs.length) :
    w.cell? ⟨g, j.toNat, none⟩ = some (.int k (rd xs j)) ∧ w.frozen? ⟨g, j.toNat, none⟩ = false := by
  obtain ⟨F, hF, _⟩ := h.holds hi
  have := Kd.R_cell (enc := Value.int k) 0 hF.1 j h0 h1
  exact this
end
def clearAll (vals : List Int) (l : List Int) : List Int := l.foldl (fun v n => v.set n.natAbs 0) vals
def Sv.back (s : Sv) (m : Nat) : Sv := { s with vals := clearAll s.vals (s.trail.drop m), trail := s.trail.take m, reasons := s.reasons.take m, done := mn s.done m }
theorem clearAll_len (l : List Int) : ∀ (vals : List Int), (clearAll vals l).length = vals.length := by
  induction l with
  | nil => intro v; rfl
  | cons n l ih => intro v; show (clearAll (v.set n.natAbs 0) l).length = _; rw [ih]; simp
theorem countP_zero {i : Nat} : ∀ (l : List Int), l.countP (fun y => y != 0) ≤ (l.set i 0).countP (fun y => y != 0) + 1 := by
  intro l
  induction l generalizing i with
  | nil => simp
  | cons a l ih =>
    cases i with
    | zero => simp only [Lb, List.countP_cons]; split <;> simp
    | succ i => have := ih (i := i); simp only [Lc, List.countP_cons]; omega
theorem clearAll_few (l : List Int) : ∀ (vals : List Int), vals.countP (fun y => y != 0) ≤ (clearAll vals l).countP (fun y => y != 0) + l.length := by
  induction l with
  | nil => intro v; exact Nat.le_refl _
  | cons n l ih =>
    intro v
    show _ ≤ (clearAll (v.set n.natAbs 0) l).countP _ + _
    have := ih (v.set n.natAbs 0)
    have := countP_zero (i := n.natAbs) v
    simp only [List.length_cons]; omega
theorem clearAll_unit (l : List Int) : ∀ (vals : List Int), (∀ x ∈ vals, x = -1 ∨ x = 0 ∨ x = 1) → ∀ x ∈ clearAll vals l, x = -1 ∨ x = 0 ∨ x = 1 := by
  induction l with
  | nil => intro v h; exact h
  | cons n l ih =>
    intro v h
    refine ih _ (fun x hx => ?_)
    rcases List.mem_or_eq_of_mem_set hx with hx | hx
    · exact h x hx
    · exact .inr (.inl hx)
theorem clearAll_get (l : List Int) : ∀ (vals : List Int) (i : Nat), (clearAll vals l).getD i 0 = if (∃ n ∈ l, n.natAbs = i) then 0 else vals.getD i 0 := by
  induction l with
  | nil => intro v i; simp [clearAll]
  | cons n l ih =>
    intro v i
    show (clearAll (v.set n.natAbs 0) l).getD i 0 = _
    rw [ih]
    by_cases h1 : ∃ m ∈ l, m.natAbs = i
    · rw [if_pos h1, if_pos (by obtain ⟨m, hm, e⟩ := h1; exact ⟨m, List.mem_cons_of_mem _ hm, e⟩)]
    · rw [if_neg h1]
      by_cases h2 : n.natAbs = i
      · rw [if_pos ⟨n, List.mem_cons_self .., h2⟩]
        subst h2
        rw [List.getD_eq_getElem?_getD, List.getElem?_set]
        simp only [if_true]
        split <;> rfl
      · rw [if_neg (by rintro ⟨m, hm, e⟩; rcases List.mem_cons.1 hm with rfl | hm; exact h2 e; exact h1 ⟨m, hm, e⟩)]
        rw [List.getD_eq_getElem?_getD, List.getElem?_set_ne h2, ← List.getD_eq_getElem?_getD]
theorem Sv.Ok.back {s : Sv} (h : s.Ok) {m : Nat} (hm : m ≤ s.trail.length) : (s.back m).Ok := by
  have hs := h.same
  have h0 := h.done0
  refine ⟨h.vars0, h.vars1, ?_, ?_, h.lits, h.clen, h.llen, ?_, ?_, ?_, ?_, ?_, h.occ, h.olen, ?_, ?_⟩
  · show ((clearAll _ _).length : Int) = _
    rw [clearAll_len]; exact h.vals
  · exact clearAll_unit _ _ h.unit
  · show (s.reasons.take m).length = (s.trail.take m).length
    rw [List.length_take, List.length_take, hs]
  · show (s.trail.take m).length ≤ (clearAll s.vals (s.trail.drop m)).countP _
    have h1 := clearAll_few (s.trail.drop m) s.vals
    have h2 := h.few
    rw [List.length_drop] at h1
    rw [List.length_take]; omega
  · show 0 ≤ mn s.done m
    unfold mn; split <;> omega
  · show mn s.done m ≤ ((s.trail.take m).length : Int)
    rw [List.length_take, Nat.min_eq_left hm]
    unfold mn; split <;> omega
  · intro n hn; exact h.tlits n (List.mem_of_mem_take hn)
  · intro i hi
    have hi' : i < (clearAll s.vals (s.trail.drop m)).length := hi
    rw [clearAll_len] at hi'
    show (clearAll s.vals (s.trail.drop m)).getD i 0 = tv (s.trail.take m) i
    rw [clearAll_get]
    have hnd := h.nodup
    rw [← List.take_append_drop m s.trail, List.map_append, List.nodup_append] at hnd
    split
    · rename_i hex
      obtain ⟨n, hn, rfl⟩ := hex
      refine (tv_zero.2 (fun q hq => ?_)).symm
      exact hnd.2.2 _ (List.mem_map.2 ⟨q, hq, rfl⟩) _ (List.mem_map.2 ⟨n, hn, rfl⟩)
    · rename_i hex
      rw [h.det i hi']
      unfold tv
      have hmem : ∀ x : Int, x.natAbs = i → (x ∈ s.trail ↔ x ∈ s.trail.take m) := by
        intro x hx
        constructor
        · intro hm
          rw [← List.take_append_drop m s.trail] at hm
          rcases List.mem_append.1 hm with hm | hm
          · exact hm
          · exact absurd ⟨x, hm, hx⟩ hex
        · exact fun hm => List.mem_of_mem_take hm
      have h1 := hmem (i : Int) (by omega)
      have h2 := hmem (-(i : Int)) (by omega)
      simp only [h1, h2]
  · show ((s.trail.take m).map Int.natAbs).Nodup
    have hnd := h.nodup
    rw [← List.take_append_drop m s.trail, List.map_append, List.nodup_append] at hnd
    exact hnd.1
set_option maxHeartbeats 8000000 in
set_option maxRecDepth 100000 in
theorem back78 (s : Sv) (m : Nat) (fx : Fx) (g : Nat) (w : World) (R : List Asn) (h : IsSv fx w g s R) (hok : s.Ok) (hm : m ≤ s.trail.length) :
    Calls Try.prog 78 #[.pointer (some ⟨g, 0, none⟩), .int .i64 (m : Int)] w fun e w' => e = .returned (.tuple #[]) ∧ IsSv fx w' g (s.back m) R := by
  have hu82 := Try.underlying82
  obtain ⟨vV, tV, rV, h⟩ := h
  simp only [SvL, List.cons_append, List.nil_append] at h
  have hvl := hok.vals; have hv1 := hok.vars1; have hv0 := hok.vars0; have htl := hok.trail_le; have hsm := hok.same
  obtain ⟨gv, cv, rfl⟩ := h.row_form (i := 2) rfl (by omega)
  obtain ⟨At, ct, rfl, hct, _⟩ := h.row_reads (i := 3) rfl
  obtain ⟨Ar, cr, rfl, hcr, _⟩ := h.row_reads (i := 4) rfl
  have c4 := h.box_cell (i := 0) rfl 4
  simp only [List.getElem?_toArray, List.getElem?_cons_zero, List.getElem?_cons_succ] at c4
  generalize hfin : clearAll s.vals (s.trail.drop m) = fin
  have hb : s.back m = { s with vals := fin, trail := s.trail.take m, reasons := s.reasons.take m, done := mn s.done m } := by rw [← hfin]; rfl
  rw [hb]
  have HF := Ak hfin; have HOK := Ak hok; have H := Ak h
  clear hfin hok h hb
  go_enter Try.func78, Try.ntmps78
  have hm0 : (0 : Int) ≤ (m : Int) := by omega
  have hm1 : (m : Int) ≤ (s.trail.length : Int) := by omega
  have hdn := HOK.out.done0
  go_wp2
  case' inl => have hcd : (if ct = m then At else At.map (·.add (m * 1))) = At := by rw [if_pos (by first | rfl | omega)]
  case' inr => have hcd : (if ct = m then At else At.map (·.add (m * 1))) = At.map (·.add m) := by rw [if_neg (by omega), Nat.mul_one]
  case inl =>
    have hD : ∀ wr vs, St fx.w0 wr (box g 82 #[.int .i64 s.vars, .slice fx.Ac s.cl.length fx.cc, .map (some fx.b), .slice (some ⟨gv, 0, none⟩) s.vals.length cv, .slice At s.trail.length ct, .slice Ar s.reasons.length cr, .int .i64 s.done, .int .i64 s.fuel, .int .i64 s.steps, .slice none 0 0, .bool false, .bool s.failed] :: fzA fx.wS fx.F0 :: row fx.w0.heap.size (Kd.int .i8) 96 (.slice (some ⟨gv, 0, none⟩) s.vals.length cv) vs :: row fx.w0.heap.size (Kd.int .i64) 3 (.slice At s.trail.length ct) s.trail :: row fx.w0.heap.size (Kd.int .i64) 3 (.slice Ar s.reasons.length cr) s.reasons :: R) →
        Kd.C (Kd.int .i64) wr (if ct = m then At else At.map (·.add (m * 1))) (s.trail.drop m).length (s.trail.drop m) := by
      intro wr vs hs
      obtain ⟨A7, c7, e7, _, hr7⟩ := hs.row_reads (i := 3) rfl
      injection e7 with e71 e72 e73; subst e71
      exact Kd.C_drop hr7 hm hct
    rw [hcd] at hD
    have HD := Ak hD
    have htd : ∀ n ∈ s.trail.drop m, n ≠ 0 ∧ -s.vars ≤ n ∧ n ≤ s.vars := fun n hn => HOK.out.tlits n (List.mem_of_mem_drop hn)
    have HTD := Ak htd
    clear hD hcd c4 htd
    go_loopg [13] (s.trail.length - m) (fun kq v13 wr => ∃ (j : Nat) (vs : List Int), v13 = .int .i64 (j : Int) ∧ Aside0 (j + kq = s.trail.length - m) ∧ Aside0 (vs.length = s.vals.length) ∧ Aside0 (clearAll vs ((s.trail.drop m).drop j) = fin) ∧ Aside0 (St fx.w0 wr (box g 82 #[.int .i64 s.vars, .slice fx.Ac s.cl.length fx.cc, .map (some fx.b), .slice (some ⟨gv, 0, none⟩) s.vals.length cv, .slice At s.trail.length ct, .slice Ar s.reasons.length cr, .int .i64 s.done, .int .i64 s.fuel, .int .i64 s.steps, .slice none 0 0, .bool false, .bool s.failed] :: fzA fx.wS fx.F0 :: row fx.w0.heap.size (Kd.int .i8) 96 (.slice (some ⟨gv, 0, none⟩) s.vals.length cv) vs :: row fx.w0.heap.size (Kd.int .i64) 3 (.slice At s.trail.length ct) s.trail :: row fx.w0.heap.size (Kd.int .i64) 3 (.slice Ar s.reasons.length cr) s.reasons :: R)))
    case atStart => exact ⟨0, s.vals, rfl, ⟨by omega⟩, ⟨rfl⟩, ⟨by simpa using HF.out⟩, H⟩
    case round =>
      obtain ⟨j, vs, rfl, HJ, HV, HE, H1⟩ := hrel
      by_cases hj : j < s.trail.length - m
      · have hj1 : j < (s.trail.drop m).length := by rw [List.length_drop]; exact hj
        have hi0 : (0 : Int) ≤ (j : Int) := by omega
        have hi1 : (j : Int) < ((s.trail.length - m : Nat) : Int) := by omega
        obtain ⟨ad, he, hx⟩ := Kd.at_int (HD.out _ _ H1.out) (j : Int) hi0 (by omega)
        rw [Int.toNat_natCast] at hx
        have hd : (s.trail.drop m).drop j = rd (s.trail.drop m) (j : Int) :: (s.trail.drop m).drop (j + 1) := by
          rw [List.drop_eq_getElem_cons hj1]; unfold rd; rw [List.getD_eq_getElem?_getD, Int.toNat_natCast, List.getElem?_eq_getElem hj1]; rfl
        have hf := HE.out; rw [hd] at hf
        have hln := HTD.out _ (rd_mem hi0 (by omega : (j : Int) < ((s.trail.drop m).length : Int)))
        generalize hlit : rd (s.trail.drop m) (j : Int) = lit at hx hf hln
        have HFF := Ak hf
        clear hf hd hlit HE
        rw [he]
        have hv : cnf_variable.f lit = some (lit.natAbs : Int) := by unfold cnf_variable.f; rw [mx_abs (by omega)]
        have hb0 : (0 : Int) ≤ (lit.natAbs : Int) := by omega
        have hb1 : (lit.natAbs : Int) < (s.vals.length : Int) := by omega
        go_wp2
        clear hx
        have hx1 := H1.out
        rw [← HV.out] at hx1
        have H2 := Ak hx1; clear hx1
        have hb2 : (lit.natAbs : Int) < (vs.length : Int) := by rw [HV.out]; exact hb1
        have n0_ := Ak H2.out.drew
        clear H2
        have H2 := n0_
        clear n0_
        refine start_ (n := 8) (S := fun w' => St fx.w0 w' (box g 82 #[.int .i64 s.vars, .slice fx.Ac s.cl.length fx.cc, .map (some fx.b), .slice (some ⟨gv, 0, none⟩) vs.length cv, .slice At s.trail.length ct, .slice Ar s.reasons.length cr, .int .i64 s.done, .int .i64 s.fuel, .int .i64 s.steps, .slice none 0 0, .bool false, .bool s.failed] :: fzA fx.wS fx.F0 :: row fx.w0.heap.size (Kd.int .i8) 96 (.slice (some ⟨gv, 0, none⟩) vs.length cv) vs :: row fx.w0.heap.size (Kd.int .i64) 3 (.slice At s.trail.length ct) s.trail :: row fx.w0.heap.size (Kd.int .i64) 3 (.slice Ar s.reasons.length cr) s.reasons :: R)) (ds := [7]) #[false, false, false, false, false, false, false, false] (by kernel_rfl) rfl rfl (H2.out) (fun hHeld => ?_)
        generalize World.drew _ = w_0 at H2 hHeld ⊢
        refine pure_ (i := 0) (N := some 17) (v := ?_) (a' := ?_) #[true, false, false, false, false, false, false, false] rfl rfl (by kernel_rfl) (fun _ _ _ h => h) (Or.inl ⟨by rfl, ?_⟩) ?_ ?_
        rotate_left
        · intro w'
          go_simp
          with_reducible rfl
        rotate_left
        · (try simp only [Act.put, La, Lb, Lc, i64_w, i32_w])
          rfl
        refine pure_ (i := 1) (N := some 18) (v := ?_) (a' := ?_) #[true, true, false, false, false, false, false, false] rfl rfl (by kernel_rfl) (fun _ _ _ h => h) (Or.inl ⟨by rfl, ?_⟩) ?_ ?_
        rotate_left
        · intro w'
          go_simp
          with_reducible rfl
        rotate_left
        · (try simp only [Act.put, La, Lb, Lc, i64_w, i32_w])
          rfl
        refine pure_ (i := 2) (N := some 19) (v := ?_) (a' := ?_) #[true, true, true, false, false, false, false, false] rfl rfl (by kernel_rfl) (fun _ _ _ h => h) (Or.inl ⟨by rfl, ?_⟩) ?_ ?_
        rotate_left
        · intro w'
          go_simp
          with_reducible rfl
        rotate_left
        · (try simp only [Act.put, La, Lb, Lc, i64_w, i32_w])
          rfl
        refine take_ (i := 3) (N := some 20) (v := ?_) (a' := ?_) #[true, true, true, true, false, false, false, false] rfl rfl (by kernel_rfl) (fun _ _ _ h => h) (Or.inl ⟨by rfl, ?_⟩) hHeld ?_ ?_
        rotate_left
        · intro w' hs
          have k3 := hs.box_cell (i := 0) rfl 3
          simp only [List.getElem?_toArray, List.getElem?_cons_zero, List.getElem?_cons_succ] at k3
          go_simp
          with_reducible rfl
        rotate_left
        · (try simp only [Act.put, La, Lb, Lc, i64_w, i32_w])
          rfl
        refine pure_ (i := 4) (N := some 21) (v := ?_) (a' := ?_) #[true, true, true, true, true, false, false, false] rfl rfl (by kernel_rfl) (fun _ _ _ h => h) (Or.inl ⟨by rfl, ?_⟩) ?_ ?_
        rotate_left
        · intro w'
          go_simp
          with_reducible rfl
        rotate_left
        · (try simp only [Act.put, La, Lb, Lc, i64_w, i32_w])
          rfl
        refine one_ (i := 5) (N := some 22) #[true, true, true, true, true, true, false, false] rfl rfl (by kernel_rfl) (by decide) (fun K hK => ?_)
        refine goes_ Try.func47 (by kernel_rfl) rfl ?args_2 (by rfl) rfl rfl ?hargs_2 ?main_2
        rotate_left 2
        with_reducible refine (cnf_variable.calls lit _ _ hv).mono ?_
        case hargs_2 => ((try simp only [List.map_toArray, List.map_cons, List.map_nil]); first | done | rfl)
        rintro e w_1 ⟨rfl, hb⟩
        refine ⟨_, rfl, ?_⟩
        have n0_ := Ak (H2.out.mv hb)
        clear H2
        have H2 := n0_
        clear n0_
        clear hHeld
        (try clear hb)
        refine hK.out _ _ (H2.out) (fun hHeld => ?_)
        clear hK K
        refine norm_ (a' := ?_) ?_ ?_
        rotate_left
        · show Act.put _ (some 22) _ = _
          (try simp only [Act.put, La, Lb, Lc, i64_w, i32_w])
          rfl
        refine pure_ (i := 6) (N := some 23) (v := ?_) (a' := ?_) #[true, true, true, true, true, true, true, false] rfl rfl (by kernel_rfl) (fun _ _ _ h => h) (Or.inl ⟨by rfl, ?_⟩) ?_ ?_
        rotate_left
        · intro w'
          go_simp
          with_reducible rfl
        rotate_left
        · (try simp only [Act.put, La, Lb, Lc, i64_w, i32_w])
          rfl
        refine last_ (i := 7) (N := none) #[true, true, true, true, true, true, true, true] rfl rfl (by kernel_rfl) (by decide) (fun K hK => ?_)
        refine skip_ (w1 := w_1.setCell ⟨gv, lit.natAbs, none⟩ (.int .i8 0)) (by rfl) rfl ?run_4 ?main_4
        · have kc := H2.out.row_cell (i := 2) rfl (lit.natAbs : Int) hb0 hb2
          rw [Int.toNat_natCast] at kc
          first | (go_simp; done) | (go_simp; rfl)
        have n0_ := (by have q := H2.out.row_set (i := 2) rfl (lit.natAbs : Int) 0; rw [Int.toNat_natCast] at q; exact q)
        (try simp only [List.set, La, Lb, Lc, List.length_append, List.length_cons, List.length_nil] at n0_)
        have n1_ := Ak n0_
        clear n0_ H2
        have H2 := n1_
        clear n1_
        (try clear hHeld)
        refine hK.out _ _ ?_
        clear hK K
        generalize (w_1.setCell ⟨gv, lit.natAbs, none⟩ (.int .i8 0)) = w_3 at H2 ⊢
        refine done_ (by kernel_rfl) ?_
        have hx1 := H2.out
        rw [HV.out] at hx1
        have H3 := Ak hx1; clear hx1
        have hvl2 : (vs.set lit.natAbs 0).length = s.vals.length := by rw [List.length_set]; exact HV.out
        have HV2 := Ak hvl2; clear hvl2
        have hff : clearAll (vs.set lit.natAbs 0) ((s.trail.drop m).drop (j + 1)) = fin := HFF.out
        have HF2 := Ak hff; clear hff HFF
        go_wp2
        rw [← he]
        go_roundg (gk - 1)
        case measure => have := HJ.out; omega
        case rel => exact ⟨j + 1, _, by go_num, ⟨by have := HJ.out; omega⟩, HV2, HF2, H3⟩
      · have hi1 : ¬ (j : Int) < ((s.trail.length - m : Nat) : Int) := by omega
        have hf := HE.out
        rw [List.drop_of_length_le (by rw [List.length_drop]; omega)] at hf
        obtain rfl : vs = fin := hf
        clear HE
        have hm2 : m ≤ s.reasons.length := by omega
        have hm3 : m ≤ ct := by omega
        have hm4 : m ≤ cr := by omega
        go_wp2
        have n0_ := Ak H1.out.drew
        clear H1
        have H1 := n0_
        clear n0_
        refine start_ (n := 30) (S := fun w' => St fx.w0 w' (box g 82 #[.int .i64 s.vars, .slice fx.Ac s.cl.length fx.cc, .map (some fx.b), .slice (some ⟨gv, 0, none⟩) s.vals.length cv, .slice At s.trail.length ct, .slice Ar s.reasons.length cr, .int .i64 s.done, .int .i64 s.fuel, .int .i64 s.steps, .slice none 0 0, .bool false, .bool s.failed] :: fzA fx.wS fx.F0 :: row fx.w0.heap.size (Kd.int .i8) 96 (.slice (some ⟨gv, 0, none⟩) s.vals.length cv) vs :: row fx.w0.heap.size (Kd.int .i64) 3 (.slice At s.trail.length ct) s.trail :: row fx.w0.heap.size (Kd.int .i64) 3 (.slice Ar s.reasons.length cr) s.reasons :: R)) (ds := [23, 26, 29]) #[false, false, false, false, false, false, false, false, false, false, false, false, false, false, false, false, false, false, false, false, false, false, false, false, false, false, false, false, false, false] (by kernel_rfl) rfl rfl (H1.out) (fun hHeld => ?_)
        generalize World.drew _ = w_5 at H1 hHeld ⊢
        refine pure_ (i := 0) (N := some 25) (v := ?_) (a' := ?_) #[true, false, false, false, false, false, false, false, false, false, false, false, false, false, false, false, false, false, false, false, false, false, false, false, false, false, false, false, false, false] rfl rfl (by kernel_rfl) (fun _ _ _ h => h) (Or.inl ⟨by rfl, ?_⟩) ?_ ?_
        rotate_left
        · intro w'
          go_simp
          with_reducible rfl
        rotate_left
        · (try simp only [Act.put, La, Lb, Lc, i64_w, i32_w])
          rfl
        refine pure_ (i := 1) (N := some 26) (v := ?_) (a' := ?_) #[true, true, false, false, false, false, false, false, false, false, false, false, false, false, false, false, false, false, false, false, false, false, false, false, false, false, false, false, false, false] rfl rfl (by kernel_rfl) (fun _ _ _ h => h) (Or.inl ⟨by rfl, ?_⟩) ?_ ?_
        rotate_left
        · intro w'
          go_simp
          with_reducible rfl
        rotate_left
        · (try simp only [Act.put, La, Lb, Lc, i64_w, i32_w])
          rfl
        refine pure_ (i := 2) (N := some 27) (v := ?_) (a' := ?_) #[true, true, true, false, false, false, false, false, false, false, false, false, false, false, false, false, false, false, false, false, false, false, false, false, false, false, false, false, false, false] rfl rfl (by kernel_rfl) (fun _ _ _ h => h) (Or.inl ⟨by rfl, ?_⟩) ?_ ?_
        rotate_left
        · intro w'
          go_simp
          with_reducible rfl
        rotate_left
        · (try simp only [Act.put, La, Lb, Lc, i64_w, i32_w])
          rfl
        refine pure_ (i := 3) (N := some 28) (v := ?_) (a' := ?_) #[true, true, true, true, false, false, false, false, false, false, false, false, false, false, false, false, false, false, false, false, false, false, false, false, false, false, false, false, false, false] rfl rfl (by kernel_rfl) (fun _ _ _ h => h) (Or.inl ⟨by rfl, ?_⟩) ?_ ?_
        rotate_left
        · intro w'
          go_simp
          with_reducible rfl
        rotate_left
        · (try simp only [Act.put, La, Lb, Lc, i64_w, i32_w])
          rfl
        refine pure_ (i := 4) (N := some 29) (v := ?_) (a' := ?_) #[true, true, true, true, true, false, false, false, false, false, false, false, false, false, false, false, false, false, false, false, false, false, false, false, false, false, false, false, false, false] rfl rfl (by kernel_rfl) (fun _ _ _ h => h) (Or.inl ⟨by rfl, ?_⟩) ?_ ?_
        rotate_left
        · intro w'
          go_simp
          with_reducible rfl
        rotate_left
        · (try simp only [Act.put, La, Lb, Lc, i64_w, i32_w])
          rfl
        refine pure_ (i := 5) (N := some 30) (v := ?_) (a' := ?_) #[true, true, true, true, true, true, false, false, false, false, false, false, false, false, false, false, false, false, false, false, false, false, false, false, false, false, false, false, false, false] rfl rfl (by kernel_rfl) (fun _ _ _ h => h) (Or.inl ⟨by rfl, ?_⟩) ?_ ?_
        rotate_left
        · intro w'
          go_simp
          with_reducible rfl
        rotate_left
        · (try simp only [Act.put, La, Lb, Lc, i64_w, i32_w])
          rfl
        refine take_ (i := 6) (N := some 31) (v := ?_) (a' := ?_) #[true, true, true, true, true, true, true, false, false, false, false, false, false, false, false, false, false, false, false, false, false, false, false, false, false, false, false, false, false, false] rfl rfl (by kernel_rfl) (fun _ _ _ h => h) (Or.inl ⟨by rfl, ?_⟩) hHeld ?_ ?_
        rotate_left
        · intro w' hs
          have k4 := hs.box_cell (i := 0) rfl 4
          have k5 := hs.box_cell (i := 0) rfl 5
          have k6 := hs.box_cell (i := 0) rfl 6
          simp only [List.getElem?_toArray, List.getElem?_cons_zero, List.getElem?_cons_succ] at k4 k5 k6
          go_simp
          with_reducible rfl
        rotate_left
        · (try simp only [Act.put, La, Lb, Lc, i64_w, i32_w])
          rfl
        refine pure_ (i := 7) (N := some 32) (v := ?_) (a' := ?_) #[true, true, true, true, true, true, true, true, false, false, false, false, false, false, false, false, false, false, false, false, false, false, false, false, false, false, false, false, false, false] rfl rfl (by kernel_rfl) (fun _ _ _ h => h) (Or.inl ⟨by rfl, ?_⟩) ?_ ?_
        rotate_left
        · intro w'
          go_simp
          with_reducible rfl
        rotate_left
        · (try simp only [Act.put, La, Lb, Lc, i64_w, i32_w])
          rfl
        refine pure_ (i := 8) (N := some 33) (v := ?_) (a' := ?_) #[true, true, true, true, true, true, true, true, true, false, false, false, false, false, false, false, false, false, false, false, false, false, false, false, false, false, false, false, false, false] rfl rfl (by kernel_rfl) (fun _ _ _ h => h) (Or.inl ⟨by rfl, ?_⟩) ?_ ?_
        rotate_left
        · intro w'
          go_simp
          with_reducible rfl
        rotate_left
        · (try simp only [Act.put, La, Lb, Lc, i64_w, i32_w])
          rfl
        refine pure_ (i := 9) (N := some 34) (v := ?_) (a' := ?_) #[true, true, true, true, true, true, true, true, true, true, false, false, false, false, false, false, false, false, false, false, false, false, false, false, false, false, false, false, false, false] rfl rfl (by kernel_rfl) (fun _ _ _ h => h) (Or.inl ⟨by rfl, ?_⟩) ?_ ?_
        rotate_left
        · intro w'
          go_simp
          with_reducible rfl
        rotate_left
        · (try simp only [Act.put, La, Lb, Lc, i64_w, i32_w])
          rfl
        refine pure_ (i := 10) (N := some 35) (v := ?_) (a' := ?_) #[true, true, true, true, true, true, true, true, true, true, true, false, false, false, false, false, false, false, false, false, false, false, false, false, false, false, false, false, false, false] rfl rfl (by kernel_rfl) (fun _ _ _ h => h) (Or.inl ⟨by rfl, ?_⟩) ?_ ?_
        rotate_left
        · intro w'
          go_simp
          with_reducible rfl
        rotate_left
        · (try simp only [Act.put, La, Lb, Lc, i64_w, i32_w])
          rfl
        refine pure_ (i := 11) (N := some 36) (v := ?_) (a' := ?_) #[true, true, true, true, true, true, true, true, true, true, true, true, false, false, false, false, false, false, false, false, false, false, false, false, false, false, false, false, false, false] rfl rfl (by kernel_rfl) (fun _ _ _ h => h) (Or.inl ⟨by rfl, ?_⟩) ?_ ?_
        rotate_left
        · intro w'
          go_simp
          with_reducible rfl
        rotate_left
        · (try simp only [Act.put, La, Lb, Lc, i64_w, i32_w])
          rfl
        refine take_ (i := 12) (N := some 37) (v := ?_) (a' := ?_) #[true, true, true, true, true, true, true, true, true, true, true, true, true, false, false, false, false, false, false, false, false, false, false, false, false, false, false, false, false, false] rfl rfl (by kernel_rfl) (fun _ _ _ h => h) (Or.inl ⟨by rfl, ?_⟩) hHeld ?_ ?_
        rotate_left
        · intro w' hs
          have k4 := hs.box_cell (i := 0) rfl 4
          have k5 := hs.box_cell (i := 0) rfl 5
          have k6 := hs.box_cell (i := 0) rfl 6
          simp only [List.getElem?_toArray, List.getElem?_cons_zero, List.getElem?_cons_succ] at k4 k5 k6
          go_simp
          with_reducible rfl
        rotate_left
        · (try simp only [Act.put, La, Lb, Lc, i64_w, i32_w])
          rfl
        refine pure_ (i := 13) (N := some 38) (v := ?_) (a' := ?_) #[true, true, true, true, true, true, true, true, true, true, true, true, true, true, false, false, false, false, false, false, false, false, false, false, false, false, false, false, false, false] rfl rfl (by kernel_rfl) (fun _ _ _ h => h) (Or.inl ⟨by rfl, ?_⟩) ?_ ?_
        rotate_left
        · intro w'
          go_simp
          with_reducible rfl
        rotate_left
        · (try simp only [Act.put, La, Lb, Lc, i64_w, i32_w])
          rfl
        refine pure_ (i := 14) (N := some 39) (v := ?_) (a' := ?_) #[true, true, true, true, true, true, true, true, true, true, true, true, true, true, true, false, false, false, false, false, false, false, false, false, false, false, false, false, false, false] rfl rfl (by kernel_rfl) (fun _ _ _ h => h) (Or.inl ⟨by rfl, ?_⟩) ?_ ?_
        rotate_left
        · intro w'
          go_simp
          with_reducible rfl
        rotate_left
        · (try simp only [Act.put, La, Lb, Lc, i64_w, i32_w])
          rfl
        refine pure_ (i := 15) (N := some 40) (v := ?_) (a' := ?_) #[true, true, true, true, true, true, true, true, true, true, true, true, true, true, true, true, false, false, false, false, false, false, false, false, false, false, false, false, false, false] rfl rfl (by kernel_rfl) (fun _ _ _ h => h) (Or.inl ⟨by rfl, ?_⟩) ?_ ?_
        rotate_left
        · intro w'
          go_simp
          with_reducible rfl
        rotate_left
        · (try simp only [Act.put, La, Lb, Lc, i64_w, i32_w])
          rfl
        refine pure_ (i := 16) (N := some 41) (v := ?_) (a' := ?_) #[true, true, true, true, true, true, true, true, true, true, true, true, true, true, true, true, true, false, false, false, false, false, false, false, false, false, false, false, false, false] rfl rfl (by kernel_rfl) (fun _ _ _ h => h) (Or.inl ⟨by rfl, ?_⟩) ?_ ?_
        rotate_left
        · intro w'
          go_simp
          with_reducible rfl
        rotate_left
        · (try simp only [Act.put, La, Lb, Lc, i64_w, i32_w])
          rfl
        refine pure_ (i := 17) (N := some 42) (v := ?_) (a' := ?_) #[true, true, true, true, true, true, true, true, true, true, true, true, true, true, true, true, true, true, false, false, false, false, false, false, false, false, false, false, false, false] rfl rfl (by kernel_rfl) (fun _ _ _ h => h) (Or.inl ⟨by rfl, ?_⟩) ?_ ?_
        rotate_left
        · intro w'
          go_simp
          with_reducible rfl
        rotate_left
        · (try simp only [Act.put, La, Lb, Lc, i64_w, i32_w])
          rfl
        refine take_ (i := 18) (N := some 43) (v := ?_) (a' := ?_) #[true, true, true, true, true, true, true, true, true, true, true, true, true, true, true, true, true, true, true, false, false, false, false, false, false, false, false, false, false, false] rfl rfl (by kernel_rfl) (fun _ _ _ h => h) (Or.inl ⟨by rfl, ?_⟩) hHeld ?_ ?_
        rotate_left
        · intro w' hs
          have k4 := hs.box_cell (i := 0) rfl 4
          have k5 := hs.box_cell (i := 0) rfl 5
          have k6 := hs.box_cell (i := 0) rfl 6
          simp only [List.getElem?_toArray, List.getElem?_cons_zero, List.getElem?_cons_succ] at k4 k5 k6
          go_simp
          with_reducible rfl
        rotate_left
        · (try simp only [Act.put, La, Lb, Lc, i64_w, i32_w])
          rfl
        refine pure_ (i := 19) (N := some 44) (v := ?_) (a' := ?_) #[true, true, true, true, true, true, true, true, true, true, true, true, true, true, true, true, true, true, true, true, false, false, false, false, false, false, false, false, false, false] rfl rfl (by kernel_rfl) (fun _ _ _ h => h) (Or.inl ⟨by rfl, ?_⟩) ?_ ?_
        rotate_left
        · intro w'
          go_simp
          with_reducible rfl
        rotate_left
        · (try simp only [Act.put, La, Lb, Lc, i64_w, i32_w])
          rfl
        refine pure_ (i := 20) (N := some 45) (v := ?_) (a' := ?_) #[true, true, true, true, true, true, true, true, true, true, true, true, true, true, true, true, true, true, true, true, true, false, false, false, false, false, false, false, false, false] rfl rfl (by kernel_rfl) (fun _ _ _ h => h) (Or.inl ⟨by rfl, ?_⟩) ?_ ?_
        rotate_left
        · intro w'
          go_simp
          with_reducible rfl
        rotate_left
        · (try simp only [Act.put, La, Lb, Lc, i64_w, i32_w])
          rfl
        refine pure_ (i := 21) (N := some 46) (v := ?_) (a' := ?_) #[true, true, true, true, true, true, true, true, true, true, true, true, true, true, true, true, true, true, true, true, true, true, false, false, false, false, false, false, false, false] rfl rfl (by kernel_rfl) (fun _ _ _ h => h) (Or.inl ⟨by rfl, ?_⟩) ?_ ?_
        rotate_left
        · intro w'
          go_simp
          with_reducible rfl
        rotate_left
        · (try simp only [Act.put, La, Lb, Lc, i64_w, i32_w])
          rfl
        refine pure_ (i := 22) (N := some 47) (v := ?_) (a' := ?_) #[true, true, true, true, true, true, true, true, true, true, true, true, true, true, true, true, true, true, true, true, true, true, true, false, false, false, false, false, false, false] rfl rfl (by kernel_rfl) (fun _ _ _ h => h) (Or.inl ⟨by rfl, ?_⟩) ?_ ?_
        rotate_left
        · intro w'
          go_simp
          with_reducible rfl
        rotate_left
        · (try simp only [Act.put, La, Lb, Lc, i64_w, i32_w])
          rfl
        refine last_ (i := 23) (N := none) #[true, true, true, true, true, true, true, true, true, true, true, true, true, true, true, true, true, true, true, true, true, true, true, true, false, false, false, false, false, false] rfl rfl (by kernel_rfl) (by decide) (fun K hK => ?_)
        refine skip_ (w1 := w_5.setCell ⟨g, 4, none⟩ (.slice At m ct)) (by rfl) rfl ?run_7 ?main_7
        · have k1 := H1.out.box_cell (i := 0) rfl 4
          have k2 := H1.out.box_free (i := 0) rfl 4
          simp only [List.getElem?_toArray, List.getElem?_cons_zero, List.getElem?_cons_succ] at k1
          first | (go_simp; done) | (go_simp; rfl)
        have n0_ := H1.out.box_set (i := 0) rfl 4 (.slice At m ct)
        (try simp only [List.set, La, Lb, Lc, List.length_append, List.length_cons, List.length_nil] at n0_)
        have n1_ := Ak n0_
        clear n0_ H1
        have H1 := n1_
        clear n1_
        (try clear hHeld)
        refine hK.out _ _ ?_
        clear hK K
        generalize (w_5.setCell ⟨g, 4, none⟩ (.slice At m ct)) = w_6 at H1 ⊢
        refine pure_ (i := 24) (N := some 48) (v := ?_) (a' := ?_) #[true, true, true, true, true, true, true, true, true, true, true, true, true, true, true, true, true, true, true, true, true, true, true, true, true, false, false, false, false, false] rfl rfl (by kernel_rfl) (fun _ _ _ h => h) (Or.inl ⟨by rfl, ?_⟩) ?_ ?_
        rotate_left
        · intro w'
          go_simp
          with_reducible rfl
        rotate_left
        · (try simp only [Act.put, La, Lb, Lc, i64_w, i32_w])
          rfl
        refine pure_ (i := 25) (N := some 49) (v := ?_) (a' := ?_) #[true, true, true, true, true, true, true, true, true, true, true, true, true, true, true, true, true, true, true, true, true, true, true, true, true, true, false, false, false, false] rfl rfl (by kernel_rfl) (fun _ _ _ h => h) (Or.inl ⟨by rfl, ?_⟩) ?_ ?_
        rotate_left
        · intro w'
          go_simp
          with_reducible rfl
        rotate_left
        · (try simp only [Act.put, La, Lb, Lc, i64_w, i32_w])
          rfl
        refine last_ (i := 26) (N := none) #[true, true, true, true, true, true, true, true, true, true, true, true, true, true, true, true, true, true, true, true, true, true, true, true, true, true, true, false, false, false] rfl rfl (by kernel_rfl) (by decide) (fun K hK => ?_)
        refine skip_ (w1 := w_6.setCell ⟨g, 5, none⟩ (.slice Ar m cr)) (by rfl) rfl ?run_9 ?main_9
        · have k1 := H1.out.box_cell (i := 0) rfl 5
          have k2 := H1.out.box_free (i := 0) rfl 5
          simp only [List.getElem?_toArray, List.getElem?_cons_zero, List.getElem?_cons_succ] at k1
          first | (go_simp; done) | (go_simp; rfl)
        have n0_ := H1.out.box_set (i := 0) rfl 5 (.slice Ar m cr)
        (try simp only [List.set, La, Lb, Lc, List.length_append, List.length_cons, List.length_nil] at n0_)
        have n1_ := Ak n0_
        clear n0_ H1
        have H1 := n1_
        clear n1_
        (try clear hHeld)
        refine hK.out _ _ ?_
        clear hK K
        generalize (w_6.setCell ⟨g, 5, none⟩ (.slice Ar m cr)) = w_8 at H1 ⊢
        refine pure_ (i := 27) (N := some 50) (v := ?_) (a' := ?_) #[true, true, true, true, true, true, true, true, true, true, true, true, true, true, true, true, true, true, true, true, true, true, true, true, true, true, true, true, false, false] rfl rfl (by kernel_rfl) (fun _ _ _ h => h) (Or.inl ⟨by rfl, ?_⟩) ?_ ?_
        rotate_left
        · intro w'
          go_simp
          with_reducible rfl
        rotate_left
        · (try simp only [Act.put, La, Lb, Lc, i64_w, i32_w])
          rfl
        refine pure_ (i := 28) (N := some 51) (v := ?_) (a' := ?_) #[true, true, true, true, true, true, true, true, true, true, true, true, true, true, true, true, true, true, true, true, true, true, true, true, true, true, true, true, true, false] rfl rfl (by kernel_rfl) (fun _ _ _ h => h) (Or.inl ⟨by rfl, ?_⟩) ?_ ?_
        rotate_left
        · intro w'
          go_simp
          with_reducible rfl
        rotate_left
        · (try simp only [Act.put, La, Lb, Lc, i64_w, i32_w])
          rfl
        refine last_ (i := 29) (N := none) #[true, true, true, true, true, true, true, true, true, true, true, true, true, true, true, true, true, true, true, true, true, true, true, true, true, true, true, true, true, true] rfl rfl (by kernel_rfl) (by decide) (fun K hK => ?_)
        refine skip_ (w1 := w_8.setCell ⟨g, 6, none⟩ (.int .i64 (mn s.done m))) (by rfl) rfl ?run_11 ?main_11
        · have k1 := H1.out.box_cell (i := 0) rfl 6
          have k2 := H1.out.box_free (i := 0) rfl 6
          simp only [List.getElem?_toArray, List.getElem?_cons_zero, List.getElem?_cons_succ] at k1
          first | (go_simp; done) | (go_simp; rfl)
        have n0_ := H1.out.box_set (i := 0) rfl 6 (.int .i64 (mn s.done m))
        (try simp only [List.set, La, Lb, Lc, List.length_append, List.length_cons, List.length_nil] at n0_)
        have n1_ := Ak n0_
        clear n0_ H1
        have H1 := n1_
        clear n1_
        (try clear hHeld)
        refine hK.out _ _ ?_
        clear hK K
        generalize (w_8.setCell ⟨g, 6, none⟩ (.int .i64 (mn s.done m))) = w_10 at H1 ⊢
        refine done_ (by kernel_rfl) ?_
        have hs8 := (H1.out.row_take (i := 3) rfl m (by omega)).row_take (i := 4) rfl m (by omega)
        simp only [List.set] at hs8
        have H8 := Ak hs8; clear hs8 H1
        first | go_end0 | (go_wp2; first | go_end0 | refine bodyPost_ret (results_none rfl _ _ _) rfl ?_) | refine bodyPost_ret (results_none rfl _ _ _) rfl ?_
        exact ⟨rfl, _, _, _, H8.out⟩
  case inr =>
    have hD : ∀ wr vs, St fx.w0 wr (box g 82 #[.int .i64 s.vars, .slice fx.Ac s.cl.length fx.cc, .map (some fx.b), .slice (some ⟨gv, 0, none⟩) s.vals.length cv, .slice At s.trail.length ct, .slice Ar s.reasons.length cr, .int .i64 s.done, .int .i64 s.fuel, .int .i64 s.steps, .slice none 0 0, .bool false, .bool s.failed] :: fzA fx.wS fx.F0 :: row fx.w0.heap.size (Kd.int .i8) 96 (.slice (some ⟨gv, 0, none⟩) s.vals.length cv) vs :: row fx.w0.heap.size (Kd.int .i64) 3 (.slice At s.trail.length ct) s.trail :: row fx.w0.heap.size (Kd.int .i64) 3 (.slice Ar s.reasons.length cr) s.reasons :: R) →
        Kd.C (Kd.int .i64) wr (if ct = m then At else At.map (·.add (m * 1))) (s.trail.drop m).length (s.trail.drop m) := by
      intro wr vs hs
      obtain ⟨A7, c7, e7, _, hr7⟩ := hs.row_reads (i := 3) rfl
      injection e7 with e71 e72 e73; subst e71
      exact Kd.C_drop hr7 hm hct
    rw [hcd] at hD
    have HD := Ak hD
    have htd : ∀ n ∈ s.trail.drop m, n ≠ 0 ∧ -s.vars ≤ n ∧ n ≤ s.vars := fun n hn => HOK.out.tlits n (List.mem_of_mem_drop hn)
    have HTD := Ak htd
    clear hD hcd c4 htd
    go_loopg [13] (s.trail.length - m) (fun kq v13 wr => ∃ (j : Nat) (vs : List Int), v13 = .int .i64 (j : Int) ∧ Aside0 (j + kq = s.trail.length - m) ∧ Aside0 (vs.length = s.vals.length) ∧ Aside0 (clearAll vs ((s.trail.drop m).drop j) = fin) ∧ Aside0 (St fx.w0 wr (box g 82 #[.int .i64 s.vars, .slice fx.Ac s.cl.length fx.cc, .map (some fx.b), .slice (some ⟨gv, 0, none⟩) s.vals.length cv, .slice At s.trail.length ct, .slice Ar s.reasons.length cr, .int .i64 s.done, .int .i64 s.fuel, .int .i64 s.steps, .slice none 0 0, .bool false, .bool s.failed] :: fzA fx.wS fx.F0 :: row fx.w0.heap.size (Kd.int .i8) 96 (.slice (some ⟨gv, 0, none⟩) s.vals.length cv) vs :: row fx.w0.heap.size (Kd.int .i64) 3 (.slice At s.trail.length ct) s.trail :: row fx.w0.heap.size (Kd.int .i64) 3 (.slice Ar s.reasons.length cr) s.reasons :: R)))
    case atStart => exact ⟨0, s.vals, rfl, ⟨by omega⟩, ⟨rfl⟩, ⟨by simpa using HF.out⟩, H⟩
    case round =>
      obtain ⟨j, vs, rfl, HJ, HV, HE, H1⟩ := hrel
      by_cases hj : j < s.trail.length - m
      · have hj1 : j < (s.trail.drop m).length := by rw [List.length_drop]; exact hj
        have hi0 : (0 : Int) ≤ (j : Int) := by omega
        have hi1 : (j : Int) < ((s.trail.length - m : Nat) : Int) := by omega
        obtain ⟨ad, he, hx⟩ := Kd.at_int (HD.out _ _ H1.out) (j : Int) hi0 (by omega)
        rw [Int.toNat_natCast] at hx
        have hd : (s.trail.drop m).drop j = rd (s.trail.drop m) (j : Int) :: (s.trail.drop m).drop (j + 1) := by
          rw [List.drop_eq_getElem_cons hj1]; unfold rd; rw [List.getD_eq_getElem?_getD, Int.toNat_natCast, List.getElem?_eq_getElem hj1]; rfl
        have hf := HE.out; rw [hd] at hf
        have hln := HTD.out _ (rd_mem hi0 (by omega : (j : Int) < ((s.trail.drop m).length : Int)))
        generalize hlit : rd (s.trail.drop m) (j : Int) = lit at hx hf hln
        have HFF := Ak hf
        clear hf hd hlit HE
        rw [he]
        have hv : cnf_variable.f lit = some (lit.natAbs : Int) := by unfold cnf_variable.f; rw [mx_abs (by omega)]
        have hb0 : (0 : Int) ≤ (lit.natAbs : Int) := by omega
        have hb1 : (lit.natAbs : Int) < (s.vals.length : Int) := by omega
        go_wp2
        clear hx
        have hx1 := H1.out
        rw [← HV.out] at hx1
        have H2 := Ak hx1; clear hx1
        have hb2 : (lit.natAbs : Int) < (vs.length : Int) := by rw [HV.out]; exact hb1
        have n0_ := Ak H2.out.drew
        clear H2
        have H2 := n0_
        clear n0_
        refine start_ (n := 8) (S := fun w' => St fx.w0 w' (box g 82 #[.int .i64 s.vars, .slice fx.Ac s.cl.length fx.cc, .map (some fx.b), .slice (some ⟨gv, 0, none⟩) vs.length cv, .slice At s.trail.length ct, .slice Ar s.reasons.length cr, .int .i64 s.done, .int .i64 s.fuel, .int .i64 s.steps, .slice none 0 0, .bool false, .bool s.failed] :: fzA fx.wS fx.F0 :: row fx.w0.heap.size (Kd.int .i8) 96 (.slice (some ⟨gv, 0, none⟩) vs.length cv) vs :: row fx.w0.heap.size (Kd.int .i64) 3 (.slice At s.trail.length ct) s.trail :: row fx.w0.heap.size (Kd.int .i64) 3 (.slice Ar s.reasons.length cr) s.reasons :: R)) (ds := [7]) #[false, false, false, false, false, false, false, false] (by kernel_rfl) rfl rfl (H2.out) (fun hHeld => ?_)
        generalize World.drew _ = w_12 at H2 hHeld ⊢
        refine pure_ (i := 0) (N := some 17) (v := ?_) (a' := ?_) #[true, false, false, false, false, false, false, false] rfl rfl (by kernel_rfl) (fun _ _ _ h => h) (Or.inl ⟨by rfl, ?_⟩) ?_ ?_
        rotate_left
        · intro w'
          go_simp
          with_reducible rfl
        rotate_left
        · (try simp only [Act.put, La, Lb, Lc, i64_w, i32_w])
          rfl
        refine pure_ (i := 1) (N := some 18) (v := ?_) (a' := ?_) #[true, true, false, false, false, false, false, false] rfl rfl (by kernel_rfl) (fun _ _ _ h => h) (Or.inl ⟨by rfl, ?_⟩) ?_ ?_
        rotate_left
        · intro w'
          go_simp
          with_reducible rfl
        rotate_left
        · (try simp only [Act.put, La, Lb, Lc, i64_w, i32_w])
          rfl
        refine pure_ (i := 2) (N := some 19) (v := ?_) (a' := ?_) #[true, true, true, false, false, false, false, false] rfl rfl (by kernel_rfl) (fun _ _ _ h => h) (Or.inl ⟨by rfl, ?_⟩) ?_ ?_
        rotate_left
        · intro w'
          go_simp
          with_reducible rfl
        rotate_left
        · (try simp only [Act.put, La, Lb, Lc, i64_w, i32_w])
          rfl
        refine take_ (i := 3) (N := some 20) (v := ?_) (a' := ?_) #[true, true, true, true, false, false, false, false] rfl rfl (by kernel_rfl) (fun _ _ _ h => h) (Or.inl ⟨by rfl, ?_⟩) hHeld ?_ ?_
        rotate_left
        · intro w' hs
          have k3 := hs.box_cell (i := 0) rfl 3
          simp only [List.getElem?_toArray, List.getElem?_cons_zero, List.getElem?_cons_succ] at k3
          go_simp
          with_reducible rfl
        rotate_left
        · (try simp only [Act.put, La, Lb, Lc, i64_w, i32_w])
          rfl
        refine pure_ (i := 4) (N := some 21) (v := ?_) (a' := ?_) #[true, true, true, true, true, false, false, false] rfl rfl (by kernel_rfl) (fun _ _ _ h => h) (Or.inl ⟨by rfl, ?_⟩) ?_ ?_
        rotate_left
        · intro w'
          go_simp
          with_reducible rfl
        rotate_left
        · (try simp only [Act.put, La, Lb, Lc, i64_w, i32_w])
          rfl
        refine one_ (i := 5) (N := some 22) #[true, true, true, true, true, true, false, false] rfl rfl (by kernel_rfl) (by decide) (fun K hK => ?_)
        refine goes_ Try.func47 (by kernel_rfl) rfl ?args_14 (by rfl) rfl rfl ?hargs_14 ?main_14
        rotate_left 2
        with_reducible refine (cnf_variable.calls lit _ _ hv).mono ?_
        case hargs_14 => ((try simp only [List.map_toArray, List.map_cons, List.map_nil]); first | done | rfl)
        rintro e w_13 ⟨rfl, hb⟩
        refine ⟨_, rfl, ?_⟩
        have n0_ := Ak (H2.out.mv hb)
        clear H2
        have H2 := n0_
        clear n0_
        clear hHeld
        (try clear hb)
        refine hK.out _ _ (H2.out) (fun hHeld => ?_)
        clear hK K
        refine norm_ (a' := ?_) ?_ ?_
        rotate_left
        · show Act.put _ (some 22) _ = _
          (try simp only [Act.put, La, Lb, Lc, i64_w, i32_w])
          rfl
        refine pure_ (i := 6) (N := some 23) (v := ?_) (a' := ?_) #[true, true, true, true, true, true, true, false] rfl rfl (by kernel_rfl) (fun _ _ _ h => h) (Or.inl ⟨by rfl, ?_⟩) ?_ ?_
        rotate_left
        · intro w'
          go_simp
          with_reducible rfl
        rotate_left
        · (try simp only [Act.put, La, Lb, Lc, i64_w, i32_w])
          rfl
        refine last_ (i := 7) (N := none) #[true, true, true, true, true, true, true, true] rfl rfl (by kernel_rfl) (by decide) (fun K hK => ?_)
        refine skip_ (w1 := w_13.setCell ⟨gv, lit.natAbs, none⟩ (.int .i8 0)) (by rfl) rfl ?run_16 ?main_16
        · have kc := H2.out.row_cell (i := 2) rfl (lit.natAbs : Int) hb0 hb2
          rw [Int.toNat_natCast] at kc
          first | (go_simp; done) | (go_simp; rfl)
        have n0_ := (by have q := H2.out.row_set (i := 2) rfl (lit.natAbs : Int) 0; rw [Int.toNat_natCast] at q; exact q)
        (try simp only [List.set, La, Lb, Lc, List.length_append, List.length_cons, List.length_nil] at n0_)
        have n1_ := Ak n0_
        clear n0_ H2
        have H2 := n1_
        clear n1_
        (try clear hHeld)
        refine hK.out _ _ ?_
        clear hK K
        generalize (w_13.setCell ⟨gv, lit.natAbs, none⟩ (.int .i8 0)) = w_15 at H2 ⊢
        refine done_ (by kernel_rfl) ?_
        have hx1 := H2.out
        rw [HV.out] at hx1
        have H3 := Ak hx1; clear hx1
        have hvl2 : (vs.set lit.natAbs 0).length = s.vals.length := by rw [List.length_set]; exact HV.out
        have HV2 := Ak hvl2; clear hvl2
        have hff : clearAll (vs.set lit.natAbs 0) ((s.trail.drop m).drop (j + 1)) = fin := HFF.out
        have HF2 := Ak hff; clear hff HFF
        go_wp2
        rw [← he]
        go_roundg (gk - 1)
        case measure => have := HJ.out; omega
        case rel => exact ⟨j + 1, _, by go_num, ⟨by have := HJ.out; omega⟩, HV2, HF2, H3⟩
      · have hi1 : ¬ (j : Int) < ((s.trail.length - m : Nat) : Int) := by omega
        have hf := HE.out
        rw [List.drop_of_length_le (by rw [List.length_drop]; omega)] at hf
        obtain rfl : vs = fin := hf
        clear HE
        have hm2 : m ≤ s.reasons.length := by omega
        have hm3 : m ≤ ct := by omega
        have hm4 : m ≤ cr := by omega
        go_wp2
        have n0_ := Ak H1.out.drew
        clear H1
        have H1 := n0_
        clear n0_
        refine start_ (n := 30) (S := fun w' => St fx.w0 w' (box g 82 #[.int .i64 s.vars, .slice fx.Ac s.cl.length fx.cc, .map (some fx.b), .slice (some ⟨gv, 0, none⟩) s.vals.length cv, .slice At s.trail.length ct, .slice Ar s.reasons.length cr, .int .i64 s.done, .int .i64 s.fuel, .int .i64 s.steps, .slice none 0 0, .bool false, .bool s.failed] :: fzA fx.wS fx.F0 :: row fx.w0.heap.size (Kd.int .i8) 96 (.slice (some ⟨gv, 0, none⟩) s.vals.length cv) vs :: row fx.w0.heap.size (Kd.int .i64) 3 (.slice At s.trail.length ct) s.trail :: row fx.w0.heap.size (Kd.int .i64) 3 (.slice Ar s.reasons.length cr) s.reasons :: R)) (ds := [23, 26, 29]) #[false, false, false, false, false, false, false, false, false, false, false, false, false, false, false, false, false, false, false, false, false, false, false, false, false, false, false, false, false, false] (by kernel_rfl) rfl rfl (H1.out) (fun hHeld => ?_)
        generalize World.drew _ = w_17 at H1 hHeld ⊢
        refine pure_ (i := 0) (N := some 25) (v := ?_) (a' := ?_) #[true, false, false, false, false, false, false, false, false, false, false, false, false, false, false, false, false, false, false, false, false, false, false, false, false, false, false, false, false, false] rfl rfl (by kernel_rfl) (fun _ _ _ h => h) (Or.inl ⟨by rfl, ?_⟩) ?_ ?_
        rotate_left
        · intro w'
          go_simp
          with_reducible rfl
        rotate_left
        · (try simp only [Act.put, La, Lb, Lc, i64_w, i32_w])
          rfl
        refine pure_ (i := 1) (N := some 26) (v := ?_) (a' := ?_) #[true, true, false, false, false, false, false, false, false, false, false, false, false, false, false, false, false, false, false, false, false, false, false, false, false, false, false, false, false, false] rfl rfl (by kernel_rfl) (fun _ _ _ h => h) (Or.inl ⟨by rfl, ?_⟩) ?_ ?_
        rotate_left
        · intro w'
          go_simp
          with_reducible rfl
        rotate_left
        · (try simp only [Act.put, La, Lb, Lc, i64_w, i32_w])
          rfl
        refine pure_ (i := 2) (N := some 27) (v := ?_) (a' := ?_) #[true, true, true, false, false, false, false, false, false, false, false, false, false, false, false, false, false, false, false, false, false, false, false, false, false, false, false, false, false, false] rfl rfl (by kernel_rfl) (fun _ _ _ h => h) (Or.inl ⟨by rfl, ?_⟩) ?_ ?_
        rotate_left
        · intro w'
          go_simp
          with_reducible rfl
        rotate_left
        · (try simp only [Act.put, La, Lb, Lc, i64_w, i32_w])
          rfl
        refine pure_ (i := 3) (N := some 28) (v := ?_) (a' := ?_) #[true, true, true, true, false, false, false, false, false, false, false, false, false, false, false, false, false, false, false, false, false, false, false, false, false, false, false, false, false, false] rfl rfl (by kernel_rfl) (fun _ _ _ h => h) (Or.inl ⟨by rfl, ?_⟩) ?_ ?_
        rotate_left
        · intro w'
          go_simp
          with_reducible rfl
        rotate_left
        · (try simp only [Act.put, La, Lb, Lc, i64_w, i32_w])
          rfl
        refine pure_ (i := 4) (N := some 29) (v := ?_) (a' := ?_) #[true, true, true, true, true, false, false, false, false, false, false, false, false, false, false, false, false, false, false, false, false, false, false, false, false, false, false, false, false, false] rfl rfl (by kernel_rfl) (fun _ _ _ h => h) (Or.inl ⟨by rfl, ?_⟩) ?_ ?_
        rotate_left
        · intro w'
          go_simp
          with_reducible rfl
        rotate_left
        · (try simp only [Act.put, La, Lb, Lc, i64_w, i32_w])
          rfl
        refine pure_ (i := 5) (N := some 30) (v := ?_) (a' := ?_) #[true, true, true, true, true, true, false, false, false, false, false, false, false, false, false, false, false, false, false, false, false, false, false, false, false, false, false, false, false, false] rfl rfl (by kernel_rfl) (fun _ _ _ h => h) (Or.inl ⟨by rfl, ?_⟩) ?_ ?_
        rotate_left
        · intro w'
          go_simp
          with_reducible rfl
        rotate_left
        · (try simp only [Act.put, La, Lb, Lc, i64_w, i32_w])
          rfl
        refine take_ (i := 6) (N := some 31) (v := ?_) (a' := ?_) #[true, true, true, true, true, true, true, false, false, false, false, false, false, false, false, false, false, false, false, false, false, false, false, false, false, false, false, false, false, false] rfl rfl (by kernel_rfl) (fun _ _ _ h => h) (Or.inl ⟨by rfl, ?_⟩) hHeld ?_ ?_
        rotate_left
        · intro w' hs
          have k4 := hs.box_cell (i := 0) rfl 4
          have k5 := hs.box_cell (i := 0) rfl 5
          have k6 := hs.box_cell (i := 0) rfl 6
          simp only [List.getElem?_toArray, List.getElem?_cons_zero, List.getElem?_cons_succ] at k4 k5 k6
          go_simp
          with_reducible rfl
        rotate_left
        · (try simp only [Act.put, La, Lb, Lc, i64_w, i32_w])
          rfl
        refine pure_ (i := 7) (N := some 32) (v := ?_) (a' := ?_) #[true, true, true, true, true, true, true, true, false, false, false, false, false, false, false, false, false, false, false, false, false, false, false, false, false, false, false, false, false, false] rfl rfl (by kernel_rfl) (fun _ _ _ h => h) (Or.inl ⟨by rfl, ?_⟩) ?_ ?_
        rotate_left
        · intro w'
          go_simp
          with_reducible rfl
        rotate_left
        · (try simp only [Act.put, La, Lb, Lc, i64_w, i32_w])
          rfl
        refine pure_ (i := 8) (N := some 33) (v := ?_) (a' := ?_) #[true, true, true, true, true, true, true, true, true, false, false, false, false, false, false, false, false, false, false, false, false, false, false, false, false, false, false, false, false, false] rfl rfl (by kernel_rfl) (fun _ _ _ h => h) (Or.inl ⟨by rfl, ?_⟩) ?_ ?_
        rotate_left
        · intro w'
          go_simp
          with_reducible rfl
        rotate_left
        · (try simp only [Act.put, La, Lb, Lc, i64_w, i32_w])
          rfl
        refine pure_ (i := 9) (N := some 34) (v := ?_) (a' := ?_) #[true, true, true, true, true, true, true, true, true, true, false, false, false, false, false, false, false, false, false, false, false, false, false, false, false, false, false, false, false, false] rfl rfl (by kernel_rfl) (fun _ _ _ h => h) (Or.inl ⟨by rfl, ?_⟩) ?_ ?_
        rotate_left
        · intro w'
          go_simp
          with_reducible rfl
        rotate_left
        · (try simp only [Act.put, La, Lb, Lc, i64_w, i32_w])
          rfl
        refine pure_ (i := 10) (N := some 35) (v := ?_) (a' := ?_) #[true, true, true, true, true, true, true, true, true, true, true, false, false, false, false, false, false, false, false, false, false, false, false, false, false, false, false, false, false, false] rfl rfl (by kernel_rfl) (fun _ _ _ h => h) (Or.inl ⟨by rfl, ?_⟩) ?_ ?_
        rotate_left
        · intro w'
          go_simp
          with_reducible rfl
        rotate_left
        · (try simp only [Act.put, La, Lb, Lc, i64_w, i32_w])
          rfl
        refine pure_ (i := 11) (N := some 36) (v := ?_) (a' := ?_) #[true, true, true, true, true, true, true, true, true, true, true, true, false, false, false, false, false, false, false, false, false, false, false, false, false, false, false, false, false, false] rfl rfl (by kernel_rfl) (fun _ _ _ h => h) (Or.inl ⟨by rfl, ?_⟩) ?_ ?_
        rotate_left
        · intro w'
          go_simp
          with_reducible rfl
        rotate_left
        · (try simp only [Act.put, La, Lb, Lc, i64_w, i32_w])
          rfl
        refine take_ (i := 12) (N := some 37) (v := ?_) (a' := ?_) #[true, true, true, true, true, true, true, true, true, true, true, true, true, false, false, false, false, false, false, false, false, false, false, false, false, false, false, false, false, false] rfl rfl (by kernel_rfl) (fun _ _ _ h => h) (Or.inl ⟨by rfl, ?_⟩) hHeld ?_ ?_
        rotate_left
        · intro w' hs
          have k4 := hs.box_cell (i := 0) rfl 4
          have k5 := hs.box_cell (i := 0) rfl 5
          have k6 := hs.box_cell (i := 0) rfl 6
          simp only [List.getElem?_toArray, List.getElem?_cons_zero, List.getElem?_cons_succ] at k4 k5 k6
          go_simp
          with_reducible rfl
        rotate_left
        · (try simp only [Act.put, La, Lb, Lc, i64_w, i32_w])
          rfl
        refine pure_ (i := 13) (N := some 38) (v := ?_) (a' := ?_) #[true, true, true, true, true, true, true, true, true, true, true, true, true, true, false, false, false, false, false, false, false, false, false, false, false, false, false, false, false, false] rfl rfl (by kernel_rfl) (fun _ _ _ h => h) (Or.inl ⟨by rfl, ?_⟩) ?_ ?_
        rotate_left
        · intro w'
          go_simp
          with_reducible rfl
        rotate_left
        · (try simp only [Act.put, La, Lb, Lc, i64_w, i32_w])
          rfl
        refine pure_ (i := 14) (N := some 39) (v := ?_) (a' := ?_) #[true, true, true, true, true, true, true, true, true, true, true, true, true, true, true, false, false, false, false, false, false, false, false, false, false, false, false, false, false, false] rfl rfl (by kernel_rfl) (fun _ _ _ h => h) (Or.inl ⟨by rfl, ?_⟩) ?_ ?_
        rotate_left
        · intro w'
          go_simp
          with_reducible rfl
        rotate_left
        · (try simp only [Act.put, La, Lb, Lc, i64_w, i32_w])
          rfl
        refine pure_ (i := 15) (N := some 40) (v := ?_) (a' := ?_) #[true, true, true, true, true, true, true, true, true, true, true, true, true, true, true, true, false, false, false, false, false, false, false, false, false, false, false, false, false, false] rfl rfl (by kernel_rfl) (fun _ _ _ h => h) (Or.inl ⟨by rfl, ?_⟩) ?_ ?_
        rotate_left
        · intro w'
          go_simp
          with_reducible rfl
        rotate_left
        · (try simp only [Act.put, La, Lb, Lc, i64_w, i32_w])
          rfl
        refine pure_ (i := 16) (N := some 41) (v := ?_) (a' := ?_) #[true, true, true, true, true, true, true, true, true, true, true, true, true, true, true, true, true, false, false, false, false, false, false, false, false, false, false, false, false, false] rfl rfl (by kernel_rfl) (fun _ _ _ h => h) (Or.inl ⟨by rfl, ?_⟩) ?_ ?_
        rotate_left
        · intro w'
          go_simp
          with_reducible rfl
        rotate_left
        · (try simp only [Act.put, La, Lb, Lc, i64_w, i32_w])
          rfl
        refine pure_ (i := 17) (N := some 42) (v := ?_) (a' := ?_) #[true, true, true, true, true, true, true, true, true, true, true, true, true, true, true, true, true, true, false, false, false, false, false, false, false, false, false, false, false, false] rfl rfl (by kernel_rfl) (fun _ _ _ h => h) (Or.inl ⟨by rfl, ?_⟩) ?_ ?_
        rotate_left
        · intro w'
          go_simp
          with_reducible rfl
        rotate_left
        · (try simp only [Act.put, La, Lb, Lc, i64_w, i32_w])
          rfl
        refine take_ (i := 18) (N := some 43) (v := ?_) (a' := ?_) #[true, true, true, true, true, true, true, true, true, true, true, true, true, true, true, true, true, true, true, false, false, false, false, false, false, false, false, false, false, false] rfl rfl (by kernel_rfl) (fun _ _ _ h => h) (Or.inl ⟨by rfl, ?_⟩) hHeld ?_ ?_
        rotate_left
        · intro w' hs
          have k4 := hs.box_cell (i := 0) rfl 4
          have k5 := hs.box_cell (i := 0) rfl 5
          have k6 := hs.box_cell (i := 0) rfl 6
          simp only [List.getElem?_toArray, List.getElem?_cons_zero, List.getElem?_cons_succ] at k4 k5 k6
          go_simp
          with_reducible rfl
        rotate_left
        · (try simp only [Act.put, La, Lb, Lc, i64_w, i32_w])
          rfl
        refine pure_ (i := 19) (N := some 44) (v := ?_) (a' := ?_) #[true, true, true, true, true, true, true, true, true, true, true, true, true, true, true, true, true, true, true, true, false, false, false, false, false, false, false, false, false, false] rfl rfl (by kernel_rfl) (fun _ _ _ h => h) (Or.inl ⟨by rfl, ?_⟩) ?_ ?_
        rotate_left
        · intro w'
          go_simp
          with_reducible rfl
        rotate_left
        · (try simp only [Act.put, La, Lb, Lc, i64_w, i32_w])
          rfl
        refine pure_ (i := 20) (N := some 45) (v := ?_) (a' := ?_) #[true, true, true, true, true, true, true, true, true, true, true, true, true, true, true, true, true, true, true, true, true, false, false, false, false, false, false, false, false, false] rfl rfl (by kernel_rfl) (fun _ _ _ h => h) (Or.inl ⟨by rfl, ?_⟩) ?_ ?_
        rotate_left
        · intro w'
          go_simp
          with_reducible rfl
        rotate_left
        · (try simp only [Act.put, La, Lb, Lc, i64_w, i32_w])
          rfl
        refine pure_ (i := 21) (N := some 46) (v := ?_) (a' := ?_) #[true, true, true, true, true, true, true, true, true, true, true, true, true, true, true, true, true, true, true, true, true, true, false, false, false, false, false, false, false, false] rfl rfl (by kernel_rfl) (fun _ _ _ h => h) (Or.inl ⟨by rfl, ?_⟩) ?_ ?_
        rotate_left
        · intro w'
          go_simp
          with_reducible rfl
        rotate_left
        · (try simp only [Act.put, La, Lb, Lc, i64_w, i32_w])
          rfl
        refine pure_ (i := 22) (N := some 47) (v := ?_) (a' := ?_) #[true, true, true, true, true, true, true, true, true, true, true, true, true, true, true, true, true, true, true, true, true, true, true, false, false, false, false, false, false, false] rfl rfl (by kernel_rfl) (fun _ _ _ h => h) (Or.inl ⟨by rfl, ?_⟩) ?_ ?_
        rotate_left
        · intro w'
          go_simp
          with_reducible rfl
        rotate_left
        · (try simp only [Act.put, La, Lb, Lc, i64_w, i32_w])
          rfl
        refine last_ (i := 23) (N := none) #[true, true, true, true, true, true, true, true, true, true, true, true, true, true, true, true, true, true, true, true, true, true, true, true, false, false, false, false, false, false] rfl rfl (by kernel_rfl) (by decide) (fun K hK => ?_)
        refine skip_ (w1 := w_17.setCell ⟨g, 4, none⟩ (.slice At m ct)) (by rfl) rfl ?run_19 ?main_19
        · have k1 := H1.out.box_cell (i := 0) rfl 4
          have k2 := H1.out.box_free (i := 0) rfl 4
          simp only [List.getElem?_toArray, List.getElem?_cons_zero, List.getElem?_cons_succ] at k1
          first | (go_simp; done) | (go_simp; rfl)
        have n0_ := H1.out.box_set (i := 0) rfl 4 (.slice At m ct)
        (try simp only [List.set, La, Lb, Lc, List.length_append, List.length_cons, List.length_nil] at n0_)
        have n1_ := Ak n0_
        clear n0_ H1
        have H1 := n1_
        clear n1_
        (try clear hHeld)
        refine hK.out _ _ ?_
        clear hK K
        generalize (w_17.setCell ⟨g, 4, none⟩ (.slice At m ct)) = w_18 at H1 ⊢
        refine pure_ (i := 24) (N := some 48) (v := ?_) (a' := ?_) #[true, true, true, true, true, true, true, true, true, true, true, true, true, true, true, true, true, true, true, true, true, true, true, true, true, false, false, false, false, false] rfl rfl (by kernel_rfl) (fun _ _ _ h => h) (Or.inl ⟨by rfl, ?_⟩) ?_ ?_
        rotate_left
        · intro w'
          go_simp
          with_reducible rfl
        rotate_left
        · (try simp only [Act.put, La, Lb, Lc, i64_w, i32_w])
          rfl
        refine pure_ (i := 25) (N := some 49) (v := ?_) (a' := ?_) #[true, true, true, true, true, true, true, true, true, true, true, true, true, true, true, true, true, true, true, true, true, true, true, true, true, true, false, false, false, false] rfl rfl (by kernel_rfl) (fun _ _ _ h => h) (Or.inl ⟨by rfl, ?_⟩) ?_ ?_
        rotate_left
        · intro w'
          go_simp
          with_reducible rfl
        rotate_left
        · (try simp only [Act.put, La, Lb, Lc, i64_w, i32_w])
          rfl
        refine last_ (i := 26) (N := none) #[true, true, true, true, true, true, true, true, true, true, true, true, true, true, true, true, true, true, true, true, true, true, true, true, true, true, true, false, false, false] rfl rfl (by kernel_rfl) (by decide) (fun K hK => ?_)
        refine skip_ (w1 := w_18.setCell ⟨g, 5, none⟩ (.slice Ar m cr)) (by rfl) rfl ?run_21 ?main_21
        · have k1 := H1.out.box_cell (i := 0) rfl 5
          have k2 := H1.out.box_free (i := 0) rfl 5
          simp only [List.getElem?_toArray, List.getElem?_cons_zero, List.getElem?_cons_succ] at k1
          first | (go_simp; done) | (go_simp; rfl)
        have n0_ := H1.out.box_set (i := 0) rfl 5 (.slice Ar m cr)
        (try simp only [List.set, La, Lb, Lc, List.length_append, List.length_cons, List.length_nil] at n0_)
        have n1_ := Ak n0_
        clear n0_ H1
        have H1 := n1_
        clear n1_
        (try clear hHeld)
        refine hK.out _ _ ?_
        clear hK K
        generalize (w_18.setCell ⟨g, 5, none⟩ (.slice Ar m cr)) = w_20 at H1 ⊢
        refine pure_ (i := 27) (N := some 50) (v := ?_) (a' := ?_) #[true, true, true, true, true, true, true, true, true, true, true, true, true, true, true, true, true, true, true, true, true, true, true, true, true, true, true, true, false, false] rfl rfl (by kernel_rfl) (fun _ _ _ h => h) (Or.inl ⟨by rfl, ?_⟩) ?_ ?_
        rotate_left
        · intro w'
          go_simp
          with_reducible rfl
        rotate_left
        · (try simp only [Act.put, La, Lb, Lc, i64_w, i32_w])
          rfl
        refine pure_ (i := 28) (N := some 51) (v := ?_) (a' := ?_) #[true, true, true, true, true, true, true, true, true, true, true, true, true, true, true, true, true, true, true, true, true, true, true, true, true, true, true, true, true, false] rfl rfl (by kernel_rfl) (fun _ _ _ h => h) (Or.inl ⟨by rfl, ?_⟩) ?_ ?_
        rotate_left
        · intro w'
          go_simp
          with_reducible rfl
        rotate_left
        · (try simp only [Act.put, La, Lb, Lc, i64_w, i32_w])
          rfl
        refine last_ (i := 29) (N := none) #[true, true, true, true, true, true, true, true, true, true, true, true, true, true, true, true, true, true, true, true, true, true, true, true, true, true, true, true, true, true] rfl rfl (by kernel_rfl) (by decide) (fun K hK => ?_)
        refine skip_ (w1 := w_20.setCell ⟨g, 6, none⟩ (.int .i64 (mn s.done m))) (by rfl) rfl ?run_23 ?main_23
        · have k1 := H1.out.box_cell (i := 0) rfl 6
          have k2 := H1.out.box_free (i := 0) rfl 6
          simp only [List.getElem?_toArray, List.getElem?_cons_zero, List.getElem?_cons_succ] at k1
          first | (go_simp; done) | (go_simp; rfl)
        have n0_ := H1.out.box_set (i := 0) rfl 6 (.int .i64 (mn s.done m))
        (try simp only [List.set, La, Lb, Lc, List.length_append, List.length_cons, List.length_nil] at n0_)
        have n1_ := Ak n0_
        clear n0_ H1
        have H1 := n1_
        clear n1_
        (try clear hHeld)
        refine hK.out _ _ ?_
        clear hK K
        generalize (w_20.setCell ⟨g, 6, none⟩ (.int .i64 (mn s.done m))) = w_22 at H1 ⊢
        refine done_ (by kernel_rfl) ?_
        have hs8 := (H1.out.row_take (i := 3) rfl m (by omega)).row_take (i := 4) rfl m (by omega)
        simp only [List.set] at hs8
        have H8 := Ak hs8; clear hs8 H1
        first | go_end0 | (go_wp2; first | go_end0 | refine bodyPost_ret (results_none rfl _ _ _) rfl ?_) | refine bodyPost_ret (results_none rfl _ _ _) rfl ?_
        exact ⟨rfl, _, _, _, H8.out⟩
end Go.Proofs.Ytapbkoolddnjgaa.PA
