/- What the claim needs of PAx12: lemmas and contracts, cut by a program to what is used. -/
import Derived.Test.YtapbkoolddnjgaaQfPAx0
import Derived.Test.YtapbkoolddnjgaaQfPAx1
import Derived.Test.YtapbkoolddnjgaaQfPAx2
import Derived.Test.YtapbkoolddnjgaaQfPAx8
import Derived.Test.YtapbkoolddnjgaaQfPAx9
import Derived.Test.YtapbkoolddnjgaaQfPAx11
namespace Go.Proofs.Ytapbkoolddnjgaa.PA
open Go.RowKit Go.Proofs.YtapbkoolddnjgaaW.PrintWords Go.Proofs.YtapbkoolddnjgaaW.PrintLast Go.Proofs.YtapbkoolddnjgaaW.PrintMore Go.Proofs.Sl
attribute [local go_sem] max2_int min2_int max_two min_two max_three min_three max_four min_four
set_option linter.unusedVariables false
set_option linter.unusedSimpArgs false
def rowU (B : Nat) (wm : World) (e : TypeId) (v : Value) (xs : List (List Int)) (u : Value) (y : List Int) : Asn where
  H F w := ((Kd.mix 3 (Kd.int .i64) (Kd.int .i64) wm).R e w B F v xs ∧ ∀ b, F b → b < w.heap.size) ∧ (Kd.int .i64).R 3 w B F u y
  move hm h := ⟨⟨Kd.R_move h.1.1 hm, fun b hb => lt_move (hm b hb) (h.1.2 b hb)⟩, Kd.R_move h.2 hm⟩
  lt h hb := h.1.2 _ hb
theorem rowU_reads {w0 w : World} {L : List Asn} {B : Nat} {wm : World} {e : TypeId} {v u : Value} {xs : List (List Int)} {y : List Int} (h : St w0 w L) {i : Nat} (hi : L[i]? = some (rowU B wm e v xs u y)) : ∃ A c, u = .slice A y.length c ∧ y.length ≤ c ∧ (Kd.int .i64).C w A y.length y := by
  obtain ⟨F, hF, hl⟩ := h.holds hi
  exact Kd.R_reads hF.2
theorem rowU_row {w0 w : World} {L : List Asn} {B : Nat} {wm : World} {e : TypeId} {v u : Value} {xs : List (List Int)} {y : List Int} (h : St w0 w (rowU B wm e v xs u y :: L)) : St w0 w (row B (Kd.mix 3 (Kd.int .i64) (Kd.int .i64) wm) e v xs :: L) := by
  obtain ⟨F, ⟨F1, F2, he, hd, hA, hL⟩, hF⟩ := h.sep
  exact ⟨h.below, F, ⟨F1, F2, he, hd, hA.1, hL⟩, hF⟩
theorem rowU_form {w0 w : World} {L : List Asn} {B : Nat} {wm : World} {e : TypeId} {v u : Value} {xs : List (List Int)} {y : List Int} (h : St w0 w L) {i : Nat} (hi : L[i]? = some (rowU B wm e v xs u y)) : ∃ A c, v = .slice A xs.length c ∧ xs.length ≤ c := by
  obtain ⟨F, hF, hl⟩ := h.holds hi
  obtain ⟨A, c, e1, e2, _⟩ := Kd.R_reads hF.1.1
  exact ⟨A, c, e1, e2⟩
section
variable {P : Program} {ops : Array Oper} {rest : List Oper} {o : Oper} {a : Act} {Q : Exit → Act → World → Prop} {w0 W : World} {M : List Asn}
theorem st_append_rows {wm : World} {e : TypeId} {v u : Value} {xs : List (List Int)} {y : List Int} (H : St w0 W (row w0.heap.size (Kd.mix 3 (Kd.int .i64) (Kd.int .i64) wm) e v xs :: row w0.heap.size (Kd.int .i64) 3 u y :: M)) (hgd : o.guard = none) (s x : Operand) (t : TypeId) (bytes : Nat)
    (ho : o.op = .call { callee := .builtin .append, args := #[s, x], argTypes := #[t, t] })
    (ht : P.underlying t = some (.slice e)) (hinfo : (P.info? e).map (fun i => (i.zero, i.size, i.bytes)) = some (some (.slice none 0 0), 1, bytes)) (hb0 : 0 < bytes)
    (hs : a.eval s = v) (hx : a.eval x = .slice (some ⟨W.heap.size, 0, none⟩) 1 1) (hl : (xs.length + 1) * bytes ≤ 140737488355328)
    (h : ∀ v1 w1, St w0 w1 (rowU w0.heap.size wm e v1 (xs ++ [y]) u y :: M) → wpList P ops Q rest (a.put o.dst v1) w1) :
    wpList P ops Q (o :: rest) a (W.alloc (.cells #[u] e)) := by
  have H1 : St w0 W (sepA [row w0.heap.size (Kd.mix 3 (Kd.int .i64) (Kd.int .i64) wm) e v xs, row w0.heap.size (Kd.int .i64) 3 u y] :: M) := St.shut_sep (by simpa using H)
  obtain ⟨F, hA, hF, hput⟩ := H1.focus (i := 0) rfl
  obtain ⟨F1, F2, he, hd, ⟨hR1, hl1⟩, F3, F4, he2, hd2, ⟨hR2, hl2⟩, h0⟩ := (hA : Sep _ F W)
  have hsz : (Kd.mix 3 (Kd.int .i64) (Kd.int .i64) wm).sz = 1 := rfl
  refine Kd.R_append (Kd.mix 3 (Kd.int .i64) (Kd.int .i64) wm) (w0 := w0) (W := W) w0.heap.size hgd s x t e (.slice none 0 0) bytes ho ht hinfo rfl Nat.zero_lt_one hb0 v xs y [u] (fun b => F b ∨ W.heap.size ≤ b) F3 hs hx (Kd.mix_made hR2) (fun k hk => ⟨.inl ((he k).2 (.inr ((he2 k).2 (.inl hk)))), fun e1 => hd k (hR1.1 k e1.symm) ((he2 k).2 (.inl hk))⟩) (fun _ h => .inr h)
    (Kd.R_mono hR1 (fun k hk => .inl ((he k).2 (.inl hk)))) H.below H.below.size hl ?_
  intro v1 w1 h1 _ hg _
  refine h v1 w1 ?_
  have h3 : (Kd.int .i64).R 3 w1 w0.heap.size F3 u y := Kd.R_move hR2 (fun b hb => hg.block b (hl2 b hb) (fun e1 => hd b (hR1.1 b e1.symm) ((he2 b).2 (.inl hb))))
  have := hput w1 (rowU w0.heap.size wm e v1 (xs ++ [y]) u y) (fun k => (F k ∨ W.heap.size ≤ k) ∧ k < w1.heap.size) hg.os hg.tape hg.output hg.size ⟨⟨Kd.R_mono (Kd.R_bound h1) (fun k hk => ⟨hk.1, hk.2.2.1⟩), fun b hb => hb.2⟩, Kd.R_mono h3 (fun k hk => ⟨.inl ((he k).2 (.inr ((he2 k).2 (.inl hk)))), Nat.lt_of_lt_of_le (hl2 k hk) hg.size⟩)⟩ (fun b hb => hb.1)
    (fun b hb hn => hg.block b hb (fun e1 => hn ((he b).2 (.inl (hR1.1 b e1.symm)))))
  simpa using this
end
def clash (c : List Int) : Bool := c.any (fun n => c.contains (wrap64 (-n)))
set_option maxHeartbeats 1000000 in
theorem closure89 (n : Int) (g : Nat) (A : Option Addr) (c : Nat) (l : List Int) (w0 w : World) (L : List Asn) (h : St w0 w L) (i : Nat) (hi : L[i]? = some (box g 25 #[.slice A l.length c])) (hl : l.length ≤ 1000000) (hc : l.length ≤ c) (hr : Kd.C (Kd.int .i64) w A l.length l) :
    Calls Try.prog 89 #[.int .i64 n, .pointer (some ⟨g, 0, none⟩)] w fun e w' => e = .returned (.bool (l.contains (wrap64 (-n)))) ∧ Below w.heap.size w w' := by
  have hb := h.box_cell hi 0
  simp only [List.getElem?_toArray, List.getElem?_cons_zero] at hb
  have hcall := cnf_has.calls (l.length + 1) A c l (wrap64 (-n)) _ w hr hc (has_f l _ hl)
  generalize l.contains (wrap64 (-n)) = b at hcall ⊢
  have HC := Ak hcall
  clear hcall hr
  go_enter Try.func89, Try.ntmps89
  go_wp2_with fail
  with_reducible refine (HC.out).mono ?_
  rintro e w1 ⟨rfl, hb1⟩
  have HB := Ak hb1; clear hb1
  go_wp2
  go_ret
  exact ⟨rfl, HB.out.below⟩
def rsRow (l : List (List Int)) (s : S102) : List Int := sortedByVar (rvRow (rdL l s.f0) (rdL l s.f1) s.f2)
def rsWell (V : Int) (l : List (List Int)) (s : S102) : Bool :=
  decide (0 ≤ s.f0) && decide (s.f0 < (l.length : Int)) && decide (0 ≤ s.f1) && decide (s.f1 < (l.length : Int)) && decide (1 ≤ s.f2) && decide (s.f2 ≤ V) &&
  (rdL l s.f0).contains s.f2 && (rdL l s.f1).contains (-s.f2) && decide ((rdL l s.f0).length ≤ 100000) && decide ((rdL l s.f1).length ≤ 100000) &&
  decide ((rvRow (rdL l s.f0) (rdL l s.f1) s.f2).length ≤ 12) && !(clash (rsRow l s))
set_option maxHeartbeats 8000000 in
set_option maxRecDepth 100000 in
theorem closure87 (k : Int) (s : S102) (V : Int) (l : List (List Int)) (gl gf : Nat) (vf v : Value) (wm w0 w : World) (hV : V ≤ 1000) (hl : l.length ≤ 1000000) (hwm : Below wm.heap.size wm w0)
    (h : St w0 w [box gl 22 #[v], row w0.heap.size (Kd.mix 3 (Kd.int .i64) (Kd.int .i64) wm) 25 v l, box gf 24 #[.int .i64 V, vf]]) (hw : rsWell V l s = true) :
    Calls Try.prog 87 #[.int .i64 k, .agg #[.int .i64 s.f0, .int .i64 s.f1, .int .i64 s.f2], .pointer (some ⟨gl, 0, none⟩), .pointer (some ⟨gf, 0, none⟩)] w fun e w' =>
      e = .returned (.int .i64 0) ∧ ∃ v', St w0 w' [box gl 22 #[v'], row w0.heap.size (Kd.mix 3 (Kd.int .i64) (Kd.int .i64) wm) 25 v' (l ++ [rsRow l s]), box gf 24 #[.int .i64 V, vf]] := by
  unfold rsWell at hw
  simp only [Bool.and_eq_true, decide_eq_true_eq, Bool.not_eq_true'] at hw
  obtain ⟨⟨⟨⟨⟨⟨⟨⟨⟨⟨⟨a0, a1⟩, b0⟩, b1⟩, v1⟩, v2⟩, ha⟩, hb⟩, la⟩, lb⟩, l12⟩, hcl⟩ := hw
  have hcl2 := hcl
  unfold rsRow at hcl ⊢
  obtain ⟨f0, f1, f2⟩ := s
  dsimp only at a0 a1 b0 b1 v1 v2 ha hb la lb l12 hcl ⊢
  generalize hra : rdL l f0 = ra at ha la l12 hcl ⊢
  generalize hrb : rdL l f1 = rb at hb lb l12 hcl ⊢
  generalize hrc : sortedByVar (rvRow ra rb f2) = rc at hcl ⊢
  have hrcl : rc.length ≤ 12 := by rw [← hrc, sortedByVar_len]; exact l12
  have hu24 := Try.underlying24
  have hu102 := Try.underlying102
  have HWM := Ak hwm
  have HRA := Ak hra; have HRB := Ak hrb; have HRC := Ak hrc; have HA := Ak ha; have HB := Ak hb; have HLA := Ak la; have HLB := Ak lb; have H12 := Ak l12; have HCL := Ak hcl; have HRCL := Ak hrcl
  obtain ⟨A, c, rfl, hc, _⟩ := h.row_reads (i := 1) rfl
  have H0 := Ak (h.box_new 102 #[.int .i64 f0, .int .i64 f1, .int .i64 f2])
  clear hra hrb hrc ha hb la lb l12 hcl hcl2 hrcl h hwm
  have e1 : cnf_within.f f0 0 ((l.length : Int) - 1) = some true := by rw [within_dec]; simp; omega
  have e2 : cnf_within.f f1 0 ((l.length : Int) - 1) = some true := by rw [within_dec]; simp; omega
  have E1 := Ak e1; have E2 := Ak e2; clear e1 e2
  go_enter Try.func87, Try.ntmps87
  go_upto_region 1 with fail
  generalize w.heap.size = gs at H0 ⊢
  generalize World.alloc _ _ = w1 at H0 ⊢
  have q0 := H0.out.box_cell (i := 0) rfl 0
  have q1 := H0.out.box_cell (i := 0) rfl 1
  have q2 := H0.out.box_cell (i := 1) rfl 0
  simp only [List.getElem?_toArray, List.getElem?_cons_zero, List.getElem?_cons_succ] at q0 q1 q2
  go_wp2_with fail
  with_reducible refine (cnf_within.calls f0 0 ((l.length : Int) - 1) true _ E1.out).mono ?_
  clear q0 q1 q2
  rintro e w2 ⟨rfl, hb⟩
  have H1 := Ak (H0.out.mv hb.below); clear hb H0
  have q1 := H1.out.box_cell (i := 0) rfl 1
  have q2 := H1.out.box_cell (i := 1) rfl 0
  simp only [List.getElem?_toArray, List.getElem?_cons_zero, List.getElem?_cons_succ] at q1 q2
  go_wp2_with fail
  with_reducible refine (cnf_within.calls f1 0 ((l.length : Int) - 1) true _ E2.out).mono ?_
  clear q1 q2
  rintro e w3 ⟨rfl, hb⟩
  have H2 := Ak (H1.out.mv hb.below); clear hb H1
  go_wp2
  obtain ⟨A', c', e1, hc', hMX⟩ := H2.out.row_reads (i := 1 + 1) rfl
  injection e1 with e1 _ e3
  subst e1; subst e3
  have hCL := MX_reads hMX (below_step HWM.out H2.out.below)
  clear hMX hc'
  obtain ⟨ad, Aa, ca, rfl, hxa, hca, hCa⟩ := at_rows hCL f0 a0 (by omega)
  obtain ⟨ad', Ab, cb, e4, hxb, hcb, hCb⟩ := at_rows hCL f1 b0 (by omega)
  obtain rfl : ad = ad' := Option.some.inj e4
  rw [HRA.out] at hxa hca hCa
  rw [HRB.out] at hxb hcb hCb
  have HCA := Ak hCa; have HCB := Ak hCb
  clear e4 hCa hCb hCL
  have n0_ := Ak H2.out.drew
  clear H2
  have H2 := n0_
  clear n0_
  refine start_ (n := 12) (S := fun w' => St w0 w' [box gs 102 #[.int .i64 f0, .int .i64 f1, .int .i64 f2], box gl 22 #[.slice (some ad) l.length c], row w0.heap.size (Kd.mix 3 (Kd.int .i64) (Kd.int .i64) wm) 25 (.slice (some ad) l.length c) l, box gf 24 #[.int .i64 V, vf]] ∧ w'.cell? (ad.add f0.toNat) = some (.slice Aa ra.length ca) ∧ w'.cell? (ad.add f1.toNat) = some (.slice Ab rb.length cb) ∧ Aside0 ((Kd.int .i64).C w' Aa ra.length ra ∧ (Kd.int .i64).C w' Ab rb.length rb)) (ds := []) #[false, false, false, false, false, false, false, false, false, false, false, false] (by kernel_rfl) rfl rfl (⟨H2.out, hxa, hxb, ⟨HCA.out, HCB.out⟩⟩) (fun hHeld => ?_)
  generalize World.drew _ = w_0 at H2 hHeld ⊢
  refine take_ (i := 0) (N := some 27) (v := ?_) (a' := ?_) #[true, false, false, false, false, false, false, false, false, false, false, false] rfl rfl (by kernel_rfl) (fun _ _ _ h => h) (Or.inl ⟨by rfl, ?_⟩) hHeld ?_ ?_
  rotate_left
  · rintro w' ⟨hs, h5, h6, _⟩
    have h0 := hs.box_cell (i := 0) rfl 0
    have h1 := hs.box_cell (i := 0) rfl 1
    have h2 := hs.box_cell (i := 1) rfl 0
    simp only [List.getElem?_toArray, List.getElem?_cons_zero, List.getElem?_cons_succ] at h0 h1 h2
    go_simp
    with_reducible rfl
  rotate_left
  · (try simp only [Act.put, La, Lb, Lc, i64_w, i32_w])
    rfl
  refine pure_ (i := 1) (N := some 28) (v := ?_) (a' := ?_) #[true, true, false, false, false, false, false, false, false, false, false, false] rfl rfl (by kernel_rfl) (fun _ _ _ h => h) (Or.inl ⟨by rfl, ?_⟩) ?_ ?_
  rotate_left
  · intro w'
    go_simp
    with_reducible rfl
  rotate_left
  · (try simp only [Act.put, La, Lb, Lc, i64_w, i32_w])
    rfl
  refine take_ (i := 2) (N := some 29) (v := ?_) (a' := ?_) #[true, true, true, false, false, false, false, false, false, false, false, false] rfl rfl (by kernel_rfl) (fun _ _ _ h => h) (Or.inl ⟨by rfl, ?_⟩) hHeld ?_ ?_
  rotate_left
  · rintro w' ⟨hs, h5, h6, _⟩
    have h0 := hs.box_cell (i := 0) rfl 0
    have h1 := hs.box_cell (i := 0) rfl 1
    have h2 := hs.box_cell (i := 1) rfl 0
    simp only [List.getElem?_toArray, List.getElem?_cons_zero, List.getElem?_cons_succ] at h0 h1 h2
    go_simp
    with_reducible rfl
  rotate_left
  · (try simp only [Act.put, La, Lb, Lc, i64_w, i32_w])
    rfl
  refine pure_ (i := 3) (N := some 30) (v := ?_) (a' := ?_) #[true, true, true, true, false, false, false, false, false, false, false, false] rfl rfl (by kernel_rfl) (fun _ _ _ h => h) (Or.inl ⟨by rfl, ?_⟩) ?_ ?_
  rotate_left
  · intro w'
    go_simp
    with_reducible rfl
  rotate_left
  · (try simp only [Act.put, La, Lb, Lc, i64_w, i32_w])
    rfl
  refine take_ (i := 4) (N := some 31) (v := ?_) (a' := ?_) #[true, true, true, true, true, false, false, false, false, false, false, false] rfl rfl (by kernel_rfl) (fun _ _ _ h => h) (Or.inl ⟨by rfl, ?_⟩) hHeld ?_ ?_
  rotate_left
  · rintro w' ⟨hs, h5, h6, _⟩
    have h0 := hs.box_cell (i := 0) rfl 0
    have h1 := hs.box_cell (i := 0) rfl 1
    have h2 := hs.box_cell (i := 1) rfl 0
    simp only [List.getElem?_toArray, List.getElem?_cons_zero, List.getElem?_cons_succ] at h0 h1 h2
    go_simp
    with_reducible rfl
  rotate_left
  · (try simp only [Act.put, La, Lb, Lc, i64_w, i32_w])
    rfl
  refine take_ (i := 5) (N := some 32) (v := ?_) (a' := ?_) #[true, true, true, true, true, true, false, false, false, false, false, false] rfl rfl (by kernel_rfl) (fun _ _ _ h => h) (Or.inl ⟨by rfl, ?_⟩) hHeld ?_ ?_
  rotate_left
  · rintro w' ⟨hs, h5, h6, _⟩
    have h0 := hs.box_cell (i := 0) rfl 0
    have h1 := hs.box_cell (i := 0) rfl 1
    have h2 := hs.box_cell (i := 1) rfl 0
    simp only [List.getElem?_toArray, List.getElem?_cons_zero, List.getElem?_cons_succ] at h0 h1 h2
    go_simp
    with_reducible rfl
  rotate_left
  · (try simp only [Act.put, La, Lb, Lc, i64_w, i32_w])
    rfl
  refine pure_ (i := 6) (N := some 33) (v := ?_) (a' := ?_) #[true, true, true, true, true, true, true, false, false, false, false, false] rfl rfl (by kernel_rfl) (fun _ _ _ h => h) (Or.inl ⟨by rfl, ?_⟩) ?_ ?_
  rotate_left
  · intro w'
    go_simp
    with_reducible rfl
  rotate_left
  · (try simp only [Act.put, La, Lb, Lc, i64_w, i32_w])
    rfl
  refine take_ (i := 7) (N := some 34) (v := ?_) (a' := ?_) #[true, true, true, true, true, true, true, true, false, false, false, false] rfl rfl (by kernel_rfl) (fun _ _ _ h => h) (Or.inl ⟨by rfl, ?_⟩) hHeld ?_ ?_
  rotate_left
  · rintro w' ⟨hs, h5, h6, _⟩
    have h0 := hs.box_cell (i := 0) rfl 0
    have h1 := hs.box_cell (i := 0) rfl 1
    have h2 := hs.box_cell (i := 1) rfl 0
    simp only [List.getElem?_toArray, List.getElem?_cons_zero, List.getElem?_cons_succ] at h0 h1 h2
    go_simp
    with_reducible rfl
  rotate_left
  · (try simp only [Act.put, La, Lb, Lc, i64_w, i32_w])
    rfl
  refine pure_ (i := 8) (N := some 35) (v := ?_) (a' := ?_) #[true, true, true, true, true, true, true, true, true, false, false, false] rfl rfl (by kernel_rfl) (fun _ _ _ h => h) (Or.inl ⟨by rfl, ?_⟩) ?_ ?_
  rotate_left
  · intro w'
    go_simp
    with_reducible rfl
  rotate_left
  · (try simp only [Act.put, La, Lb, Lc, i64_w, i32_w])
    rfl
  refine take_ (i := 9) (N := some 36) (v := ?_) (a' := ?_) #[true, true, true, true, true, true, true, true, true, true, false, false] rfl rfl (by kernel_rfl) (fun _ _ _ h => h) (Or.inl ⟨by rfl, ?_⟩) hHeld ?_ ?_
  rotate_left
  · rintro w' ⟨hs, h5, h6, _⟩
    have h0 := hs.box_cell (i := 0) rfl 0
    have h1 := hs.box_cell (i := 0) rfl 1
    have h2 := hs.box_cell (i := 1) rfl 0
    simp only [List.getElem?_toArray, List.getElem?_cons_zero, List.getElem?_cons_succ] at h0 h1 h2
    go_simp
    with_reducible rfl
  rotate_left
  · (try simp only [Act.put, La, Lb, Lc, i64_w, i32_w])
    rfl
  refine pure_ (i := 10) (N := some 7) (v := ?_) (a' := ?_) #[true, true, true, true, true, true, true, true, true, true, true, false] rfl rfl (by kernel_rfl) (fun _ _ _ h => h) (Or.inl ⟨by rfl, ?_⟩) ?_ ?_
  rotate_left
  · intro w'
    go_simp
    with_reducible rfl
  rotate_left
  · (try simp only [Act.put, La, Lb, Lc, i64_w, i32_w])
    rfl
  refine pure_ (i := 11) (N := some 8) (v := ?_) (a' := ?_) #[true, true, true, true, true, true, true, true, true, true, true, true] rfl rfl (by kernel_rfl) (fun _ _ _ h => h) (Or.inl ⟨by rfl, ?_⟩) ?_ ?_
  rotate_left
  · intro w'
    go_simp
    with_reducible rfl
  rotate_left
  · (try simp only [Act.put, La, Lb, Lc, i64_w, i32_w])
    rfl
  refine done_ (by kernel_rfl) ?_
  obtain ⟨_, _, _, hC0⟩ := hHeld
  have HC0 := Ak hC0.out; clear hC0 hxa hxb HCA HCB
  have q0 := H2.out.box_cell (i := 0) rfl 2
  have q1 := H2.out.box_cell (i := 3) rfl 0
  simp only [List.getElem?_toArray, List.getElem?_cons_zero, List.getElem?_cons_succ] at q0 q1
  have n0 := World.block_lt_of_cell? _ _ q0
  have n1 := World.block_lt_of_cell? _ _ q1
  have Q0 := Ak q0; have Q1 := Ak q1; have N0 := Ak n0; have N1 := Ak n1
  clear q0 q1 n0 n1
  have hw2 : cnf_within.f f2 1 V = some true := by rw [within_dec]; simp; omega
  have hha := has_f ra f2 (by have := HLA.out; omega)
  have hhb := has_f rb (-f2) (by have := HLB.out; omega)
  have hneg : wrap64 (-f2) = -f2 := by unfold wrap64; omega
  rw [HA.out] at hha; rw [HB.out, ← hneg] at hhb
  have HW2 := Ak hw2; have HHA := Ak hha; have HHB := Ak hhb
  clear hw2 hha hhb hneg
  go_wp2
  have H3 := Ak (St.start w_0)
  have n0_ := Ak H3.out.drew
  clear H3
  have H3 := n0_
  clear n0_
  refine start_ (n := 21) (S := fun w' => St w_0 w' []) (ds := []) #[false, false, false, false, false, false, false, false, false, false, false, false, false, false, false, false, false, false, false, false, false] (by kernel_rfl) rfl rfl (H3.out) (fun hHeld => ?_)
  generalize World.drew _ = w_1 at H3 hHeld ⊢
  refine pure_ (i := 0) (N := some 37) (v := ?_) (a' := ?_) #[true, false, false, false, false, false, false, false, false, false, false, false, false, false, false, false, false, false, false, false, false] rfl rfl (by kernel_rfl) (fun _ _ _ h => h) (Or.inl ⟨by rfl, ?_⟩) ?_ ?_
  rotate_left
  · intro w'
    go_simp
    with_reducible rfl
  rotate_left
  · (try simp only [Act.put, La, Lb, Lc, i64_w, i32_w])
    rfl
  refine take_ (i := 1) (N := some 38) (v := ?_) (a' := ?_) #[true, true, false, false, false, false, false, false, false, false, false, false, false, false, false, false, false, false, false, false, false] rfl rfl (by kernel_rfl) (fun _ _ _ h => h) (Or.inl ⟨by rfl, ?_⟩) hHeld ?_ ?_
  rotate_left
  · intro w' hs
    have h0 := (hs.below.cell N0.out).trans Q0.out
    have h1 := (hs.below.cell N1.out).trans Q1.out
    go_simp
    with_reducible rfl
  rotate_left
  · (try simp only [Act.put, La, Lb, Lc, i64_w, i32_w])
    rfl
  refine pure_ (i := 2) (N := some 39) (v := ?_) (a' := ?_) #[true, true, true, false, false, false, false, false, false, false, false, false, false, false, false, false, false, false, false, false, false] rfl rfl (by kernel_rfl) (fun _ _ _ h => h) (Or.inl ⟨by rfl, ?_⟩) ?_ ?_
  rotate_left
  · intro w'
    go_simp
    with_reducible rfl
  rotate_left
  · (try simp only [Act.put, La, Lb, Lc, i64_w, i32_w])
    rfl
  refine take_ (i := 3) (N := some 40) (v := ?_) (a' := ?_) #[true, true, true, true, false, false, false, false, false, false, false, false, false, false, false, false, false, false, false, false, false] rfl rfl (by kernel_rfl) (fun _ _ _ h => h) (Or.inl ⟨by rfl, ?_⟩) hHeld ?_ ?_
  rotate_left
  · intro w' hs
    have h0 := (hs.below.cell N0.out).trans Q0.out
    have h1 := (hs.below.cell N1.out).trans Q1.out
    go_simp
    with_reducible rfl
  rotate_left
  · (try simp only [Act.put, La, Lb, Lc, i64_w, i32_w])
    rfl
  refine pure_ (i := 6) (N := some 43) (v := ?_) (a' := ?_) #[true, true, true, true, false, false, true, false, false, false, false, false, false, false, false, false, false, false, false, false, false] rfl rfl (by kernel_rfl) (fun _ _ _ h => h) (Or.inl ⟨by rfl, ?_⟩) ?_ ?_
  rotate_left
  · intro w'
    go_simp
    with_reducible rfl
  rotate_left
  · (try simp only [Act.put, La, Lb, Lc, i64_w, i32_w])
    rfl
  refine pure_ (i := 7) (N := some 44) (v := ?_) (a' := ?_) #[true, true, true, true, false, false, true, true, false, false, false, false, false, false, false, false, false, false, false, false, false] rfl rfl (by kernel_rfl) (fun _ _ _ h => h) (Or.inl ⟨by rfl, ?_⟩) ?_ ?_
  rotate_left
  · intro w'
    go_simp
    with_reducible rfl
  rotate_left
  · (try simp only [Act.put, La, Lb, Lc, i64_w, i32_w])
    rfl
  refine take_ (i := 8) (N := some 45) (v := ?_) (a' := ?_) #[true, true, true, true, false, false, true, true, true, false, false, false, false, false, false, false, false, false, false, false, false] rfl rfl (by kernel_rfl) (fun _ _ _ h => h) (Or.inl ⟨by rfl, ?_⟩) hHeld ?_ ?_
  rotate_left
  · intro w' hs
    have h0 := (hs.below.cell N0.out).trans Q0.out
    have h1 := (hs.below.cell N1.out).trans Q1.out
    go_simp
    with_reducible rfl
  rotate_left
  · (try simp only [Act.put, La, Lb, Lc, i64_w, i32_w])
    rfl
  refine one_ (i := 4) (N := some 41) #[true, true, true, true, true, false, true, true, true, false, false, false, false, false, false, false, false, false, false, false, false] rfl rfl (by kernel_rfl) (by decide) (fun K hK => ?_)
  refine goes_ Try.func38 (by kernel_rfl) rfl ?args_3 (by rfl) rfl rfl ?hargs_3 ?main_3
  rotate_left 2
  with_reducible refine (cnf_within.calls f2 1 V true _ HW2.out).mono ?_
  case hargs_3 => ((try simp only [List.map_toArray, List.map_cons, List.map_nil]); first | done | rfl)
  rintro e w_2 ⟨rfl, hb⟩
  refine ⟨_, rfl, ?_⟩
  have n0_ := Ak (H3.out.mv hb.below)
  clear H3
  have H3 := n0_
  clear n0_
  clear hHeld
  (try clear hb)
  refine hK.out _ _ (H3.out) (fun hHeld => ?_)
  clear hK K
  refine norm_ (a' := ?_) ?_ ?_
  rotate_left
  · show Act.put _ (some 41) _ = _
    (try simp only [Act.put, La, Lb, Lc, i64_w, i32_w])
    rfl
  refine one_ (i := 5) (N := some 42) #[true, true, true, true, true, true, true, true, true, false, false, false, false, false, false, false, false, false, false, false, false] rfl rfl (by kernel_rfl) (by decide) (fun K hK => ?_)
  refine goes_ Try.func37 (by kernel_rfl) rfl ?args_5 (by rfl) rfl rfl ?hargs_5 ?main_5
  rotate_left 2
  with_reducible refine (cnf_unless.calls true 2 0 _ (by rw [unless_dec]; simp)).mono ?_
  case hargs_5 => ((try simp only [List.map_toArray, List.map_cons, List.map_nil]); first | done | rfl)
  rintro e w_4 ⟨rfl, hb⟩
  refine ⟨_, rfl, ?_⟩
  have n0_ := Ak (H3.out.mv hb.below)
  clear H3
  have H3 := n0_
  clear n0_
  clear hHeld
  (try clear hb)
  refine hK.out _ _ (H3.out) (fun hHeld => ?_)
  clear hK K
  refine norm_ (a' := ?_) ?_ ?_
  rotate_left
  · show Act.put _ (some 42) _ = _
    (try simp only [Act.put, La, Lb, Lc, i64_w, i32_w])
    rfl
  refine one_ (i := 9) (N := some 46) #[true, true, true, true, true, true, true, true, true, true, false, false, false, false, false, false, false, false, false, false, false] rfl rfl (by kernel_rfl) (by decide) (fun K hK => ?_)
  refine goes_ Try.func79 (by kernel_rfl) rfl ?args_7 (by rfl) rfl rfl ?hargs_7 ?main_7
  rotate_left 2
  with_reducible refine (cnf_has.calls (ra.length + 1) Aa ca ra f2 true _ (Kd.C_below HC0.out.1 H3.out.below) hca HHA.out).mono ?_
  case hargs_7 => ((try simp only [List.map_toArray, List.map_cons, List.map_nil]); first | done | rfl)
  rintro e w_6 ⟨rfl, hb⟩
  refine ⟨_, rfl, ?_⟩
  have n0_ := Ak (H3.out.mv hb.below)
  clear H3
  have H3 := n0_
  clear n0_
  clear hHeld
  (try clear hb)
  refine hK.out _ _ (H3.out) (fun hHeld => ?_)
  clear hK K
  refine norm_ (a' := ?_) ?_ ?_
  rotate_left
  · show Act.put _ (some 46) _ = _
    (try simp only [Act.put, La, Lb, Lc, i64_w, i32_w])
    rfl
  refine pure_ (i := 10) (N := some 47) (v := ?_) (a' := ?_) #[true, true, true, true, true, true, true, true, true, true, true, false, false, false, false, false, false, false, false, false, false] rfl rfl (by kernel_rfl) (fun _ _ _ h => h) (Or.inl ⟨by rfl, ?_⟩) ?_ ?_
  rotate_left
  · intro w'
    go_simp
    with_reducible rfl
  rotate_left
  · (try simp only [Act.put, La, Lb, Lc, i64_w, i32_w])
    rfl
  refine pure_ (i := 11) (N := some 48) (v := ?_) (a' := ?_) #[true, true, true, true, true, true, true, true, true, true, true, true, false, false, false, false, false, false, false, false, false] rfl rfl (by kernel_rfl) (fun _ _ _ h => h) (Or.inl ⟨by rfl, ?_⟩) ?_ ?_
  rotate_left
  · intro w'
    go_simp
    with_reducible rfl
  rotate_left
  · (try simp only [Act.put, La, Lb, Lc, i64_w, i32_w])
    rfl
  refine pure_ (i := 12) (N := some 49) (v := ?_) (a' := ?_) #[true, true, true, true, true, true, true, true, true, true, true, true, true, false, false, false, false, false, false, false, false] rfl rfl (by kernel_rfl) (fun _ _ _ h => h) (Or.inl ⟨by rfl, ?_⟩) ?_ ?_
  rotate_left
  · intro w'
    go_simp
    with_reducible rfl
  rotate_left
  · (try simp only [Act.put, La, Lb, Lc, i64_w, i32_w])
    rfl
  refine take_ (i := 13) (N := some 50) (v := ?_) (a' := ?_) #[true, true, true, true, true, true, true, true, true, true, true, true, true, true, false, false, false, false, false, false, false] rfl rfl (by kernel_rfl) (fun _ _ _ h => h) (Or.inl ⟨by rfl, ?_⟩) hHeld ?_ ?_
  rotate_left
  · intro w' hs
    have h0 := (hs.below.cell N0.out).trans Q0.out
    have h1 := (hs.below.cell N1.out).trans Q1.out
    go_simp
    with_reducible rfl
  rotate_left
  · (try simp only [Act.put, La, Lb, Lc, i64_w, i32_w])
    rfl
  refine pure_ (i := 14) (N := some 51) (v := ?_) (a' := ?_) #[true, true, true, true, true, true, true, true, true, true, true, true, true, true, true, false, false, false, false, false, false] rfl rfl (by kernel_rfl) (fun _ _ _ h => h) (Or.inl ⟨by rfl, ?_⟩) ?_ ?_
  rotate_left
  · intro w'
    go_simp
    with_reducible rfl
  rotate_left
  · (try simp only [Act.put, La, Lb, Lc, i64_w, i32_w])
    rfl
  refine one_ (i := 15) (N := some 52) #[true, true, true, true, true, true, true, true, true, true, true, true, true, true, true, true, false, false, false, false, false] rfl rfl (by kernel_rfl) (by decide) (fun K hK => ?_)
  refine goes_ Try.func79 (by kernel_rfl) rfl ?args_9 (by rfl) rfl rfl ?hargs_9 ?main_9
  rotate_left 2
  with_reducible refine (cnf_has.calls (rb.length + 1) Ab cb rb (wrap64 (-f2)) true _ (Kd.C_below HC0.out.2 H3.out.below) hcb HHB.out).mono ?_
  case hargs_9 => ((try simp only [List.map_toArray, List.map_cons, List.map_nil]); first | done | rfl)
  rintro e w_8 ⟨rfl, hb⟩
  refine ⟨_, rfl, ?_⟩
  have n0_ := Ak (H3.out.mv hb.below)
  clear H3
  have H3 := n0_
  clear n0_
  clear hHeld
  (try clear hb)
  refine hK.out _ _ (H3.out) (fun hHeld => ?_)
  clear hK K
  refine norm_ (a' := ?_) ?_ ?_
  rotate_left
  · show Act.put _ (some 52) _ = _
    (try simp only [Act.put, La, Lb, Lc, i64_w, i32_w])
    rfl
  refine pure_ (i := 16) (N := some 53) (v := ?_) (a' := ?_) #[true, true, true, true, true, true, true, true, true, true, true, true, true, true, true, true, true, false, false, false, false] rfl rfl (by kernel_rfl) (fun _ _ _ h => h) (Or.inl ⟨by rfl, ?_⟩) ?_ ?_
  rotate_left
  · intro w'
    go_simp
    with_reducible rfl
  rotate_left
  · (try simp only [Act.put, La, Lb, Lc, i64_w, i32_w])
    rfl
  refine one_ (i := 17) (N := some 54) #[true, true, true, true, true, true, true, true, true, true, true, true, true, true, true, true, true, true, false, false, false] rfl rfl (by kernel_rfl) (by decide) (fun K hK => ?_)
  refine goes_ Try.func37 (by kernel_rfl) rfl ?args_11 (by rfl) rfl rfl ?hargs_11 ?main_11
  rotate_left 2
  with_reducible refine (cnf_unless.calls true 19 0 _ (by rw [unless_dec]; simp)).mono ?_
  case hargs_11 => ((try simp only [List.map_toArray, List.map_cons, List.map_nil]); first | done | rfl)
  rintro e w_10 ⟨rfl, hb⟩
  refine ⟨_, rfl, ?_⟩
  have n0_ := Ak (H3.out.mv hb.below)
  clear H3
  have H3 := n0_
  clear n0_
  clear hHeld
  (try clear hb)
  refine hK.out _ _ (H3.out) (fun hHeld => ?_)
  clear hK K
  refine norm_ (a' := ?_) ?_ ?_
  rotate_left
  · show Act.put _ (some 54) _ = _
    (try simp only [Act.put, La, Lb, Lc, i64_w, i32_w])
    rfl
  refine one_ (i := 18) (N := some 55) #[true, true, true, true, true, true, true, true, true, true, true, true, true, true, true, true, true, true, true, false, false] rfl rfl (by kernel_rfl) (by decide) (fun K hK => ?_)
  refine value_ (v := .slice (some ⟨w_10.heap.size, 0, none⟩) 2 2) (w1 := w_10.alloc (.cells #[.int .i64 0, .int .i64 0] 28)) (by rfl) rfl ?run_13 ?main_13
  · first | (go_simp; done) | (go_simp; rfl)
  have n0_ := Ak (H3.out.box_new 28 #[.int .i64 0, .int .i64 0])
  clear H3
  have H3 := n0_
  clear n0_
  clear hHeld
  (try clear hb)
  refine hK.out _ _ (H3.out.drop 0) (fun hHeld => ?_)
  clear hK K
  refine norm_ (a' := ?_) ?_ ?_
  rotate_left
  · show Act.put _ (some 55) _ = _
    (try simp only [Act.put, La, Lb, Lc, i64_w, i32_w])
    rfl
  generalize (w_10.alloc (.cells #[.int .i64 0, .int .i64 0] 28)) = w_12 at H3 hHeld ⊢
  refine one_ (i := 19) (N := some 56) #[true, true, true, true, true, true, true, true, true, true, true, true, true, true, true, true, true, true, true, true, false] rfl rfl (by kernel_rfl) (by decide) (fun K hK => ?_)
  refine goes_ Try.func36 (by kernel_rfl) rfl ?args_15 (by rfl) rfl rfl ?hargs_15 ?main_15
  rotate_left 2
  with_reducible refine (cnf_first.calls 3 _ 2 [0, 0] 0 _ (C_of_block (k := .i64) (H3.out.box_at (i := 0) rfl).1 (by simp)) (by simp) (by rw [first2]; simp)).mono ?_
  case hargs_15 => ((try simp only [List.map_toArray, List.map_cons, List.map_nil]); first | done | rfl)
  rintro e w_14 ⟨rfl, hb⟩
  refine ⟨_, rfl, ?_⟩
  have n0_ := Ak (H3.out.mv hb.below)
  clear H3
  have H3 := n0_
  clear n0_
  clear hHeld
  (try clear hb)
  refine hK.out _ _ (H3.out.drop 0) (fun hHeld => ?_)
  clear hK K
  refine norm_ (a' := ?_) ?_ ?_
  rotate_left
  · show Act.put _ (some 56) _ = _
    (try simp only [Act.put, La, Lb, Lc, i64_w, i32_w])
    rfl
  refine pure_ (i := 20) (N := some 9) (v := ?_) (a' := ?_) #[true, true, true, true, true, true, true, true, true, true, true, true, true, true, true, true, true, true, true, true, true] rfl rfl (by kernel_rfl) (fun _ _ _ h => h) (Or.inl ⟨by rfl, ?_⟩) ?_ ?_
  rotate_left
  · intro w'
    go_simp
    with_reducible rfl
  rotate_left
  · (try simp only [Act.put, La, Lb, Lc, i64_w, i32_w])
    rfl
  refine done_ (by kernel_rfl) ?_
  have H4 := Ak (H2.out.mv H3.out.below)
  have HCA := Ak (Kd.C_below HC0.out.1 H3.out.below); have HCB := Ak (Kd.C_below HC0.out.2 H3.out.below)
  clear H2 H3 hHeld HC0 N0 N1 Q0 Q1
  have q0 := H4.out.box_cell (i := 0) rfl 2
  simp only [List.getElem?_toArray, List.getElem?_cons_zero, List.getElem?_cons_succ] at q0
  go_wp2_with fail
  with_reducible refine (resolvent88 Aa ca ra Ab cb rb f2 _ HCA.out hca HCB.out hcb HLA.out HLB.out H12.out).mono ?_
  clear q0
  rintro e w5 ⟨u, rfl, hR, hb⟩
  rw [HRC.out] at hR
  have H5 := Ak (H4.out.row_new hb hR)
  clear hb hR H4 HCA HCB
  obtain ⟨Ac, cc, rfl, hcc, _⟩ := H5.out.row_reads (i := 0) rfl
  go_upto_region 8 with fail
  have H6 := Ak (((H5.out.box_new 25 #[.slice Ac rc.length cc]).front (i := 1) rfl).front (i := 4) rfl)
  simp only [List.eraseIdx] at H6
  clear H5
  generalize w5.heap.size = gc at H6 ⊢
  generalize World.alloc _ _ = w6 at H6 ⊢
  have q1 := H6.out.box_cell (i := 4) rfl 0
  have q2 := H6.out.box_cell (i := 2) rfl 0
  simp only [List.getElem?_toArray, List.getElem?_cons_zero, List.getElem?_cons_succ] at q1 q2
  have hi25 : (Try.prog.info? 25).map (fun i => (i.zero, i.size, i.bytes)) = some (some (.slice none 0 0), 1, 24) := by kernel_rfl
  have HI := Ak hi25; clear hi25
  have hbd : (l.length + 1) * 24 ≤ 140737488355328 := by omega
  have HBD := Ak hbd; clear hbd
  go_upto_region 9 with (at_builtin; refine st_append_rows (wm := wm) (xs := l) (y := rc) H6.out rfl (.tmp 65) (.tmp 67) 22 24 rfl Try.underlying22 HI.out (by decide) rfl rfl HBD.out ?_; intro v9 w9 hs9; have H7 := Ak hs9; clear hs9 H6 q1 q2; obtain ⟨A9, c9, e9, _⟩ := rowU_form H7.out (i := 0) rfl; simp only [List.length_append, List.length_cons, List.length_nil, Nat.zero_add] at e9; subst e9; have q9 := H7.out.box_cell (i := 3) rfl 0; have r9 := H7.out.box_free (i := 3) rfl 0; simp only [List.getElem?_toArray, List.getElem?_cons_zero, List.getElem?_cons_succ] at q9)
  clear q9 r9
  have H8 := Ak (H7.out.box_set (i := 3) rfl 0 (.slice A9 (l.length + 1) c9))
  simp only [List.set, La] at H8
  clear H7
  generalize World.setCell _ _ _ = w10 at H8 ⊢
  have q2 := H8.out.box_cell (i := 1) rfl 0
  simp only [List.getElem?_toArray, List.getElem?_cons_zero, List.getElem?_cons_succ] at q2
  go_wp2_with fail
  obtain ⟨Ac', cc', e1, hcc', _⟩ := rowU_reads H8.out (i := 0) rfl
  injection e1 with e1 _ e3
  subst e1; subst e3
  with_reducible refine (containsFunc43 (fun n => rc.contains (wrap64 (-n))) (fun w' => St w0 w' [rowU w0.heap.size wm 25 (.slice A9 (l.length + 1) c9) (l ++ [rc]) (.slice Ac rc.length cc) rc, box gc 25 #[.slice Ac rc.length cc], box gs 102 #[.int .i64 f0, .int .i64 f1, .int .i64 f2], box gl 22 #[.slice A9 (l.length + 1) c9], box gf 24 #[.int .i64 V, vf]]) 89 _ Ac cc rc (by have := HRCL.out; omega) (enters_ Try.func89 rfl rfl) (fun w' hs => ?r1) (fun i w' hs hi => ?r2) _ H8.out).mono ?r3
  case r1 =>
    obtain ⟨A1, c1, e1, _, hq⟩ := rowU_reads hs (i := 0) rfl
    injection e1 with e1 _ e3
    subst e1; exact hq
  case r2 =>
    obtain ⟨A1, c1, e1, _, hq⟩ := rowU_reads hs (i := 0) rfl
    injection e1 with e1 _ e3
    subst e1
    exact (closure89 _ gc Ac cc rc w0 w' _ hs 1 rfl (by have := HRCL.out; omega) hcc hq).mono (fun e w1 h1 => ⟨h1.1, hs.mv h1.2⟩)
  clear q2
  rintro e w11 ⟨rfl, hs⟩
  have H9 := Ak hs; clear hs H8
  have hcl : rc.any (fun n => rc.contains (wrap64 (-n))) = false := HCL.out
  generalize rc.any (fun n => rc.contains (wrap64 (-n))) = bb at hcl ⊢
  subst hcl
  go_wp2_with fail
  with_reducible refine (cnf_unless.calls true 13 0 _ (by rw [unless_dec]; simp)).mono ?_
  rintro e w12 ⟨rfl, hb⟩
  have H10 := Ak (H9.out.mv hb.below); clear hb H9
  go_wp2
  go_ret
  refine ⟨rfl, .slice A9 (l.length + 1) c9, ?_⟩
  have := ((rowU_row H10.out).drop 1).drop 1
  simp only [List.eraseIdx] at this
  have := this.front (i := 1) rfl
  simpa only [List.eraseIdx] using this
def rsOk (V : Int) : List (List Int) → List S102 → Bool
  | _, [] => true
  | l, s :: P => rsWell V l s && rsOk V (l ++ [rsRow l s]) P
def rsAll : List (List Int) → List S102 → List (List Int)
  | l, [] => l
  | l, s :: P => rsAll (l ++ [rsRow l s]) P
theorem rsEach : ∀ (P : List S102) (l : List (List Int)) (i : Nat), eachRun (fun (σ : List (List Int)) (_ : Nat) (s : S102) => ((0 : Int), σ ++ [rsRow σ s])) l i P = ((0, 0), rsAll l P)
  | [], l, i => rfl
  | s :: P, l, i => by
    unfold eachRun rsAll
    rw [if_pos rfl]
    exact rsEach P _ _
set_option maxHeartbeats 8000000 in
set_option maxRecDepth 100000 in
theorem resolved65 (V : Int) (A0 : Option Addr) (c0 : Nat) (L : List (List Int)) (A1 : Option Addr) (c1 : Nat) (P : List S102) (w : World) (hr0 : Kd.C (Kd.slice 3 (Kd.int .i64)) w A0 L.length L) (hc0 : L.length ≤ c0) (hr1 : k102.C w A1 P.length P) (hc1 : P.length ≤ c1)
    (hok : (checkFormula V L).2 = 0) (hp : P.length ≤ 200000) (hrs : rsOk V L P = true) :
    Calls Try.prog 65 #[.agg #[.int .i64 V, .slice A0 L.length c0], .slice A1 P.length c1] w fun e w' => ∃ v, e = .returned (.tuple #[v, .int .i64 0, .int .i64 0]) ∧ (MX w).R 25 w' w.heap.size (fun _ => True) v (rsAll L P) ∧ Below w.heap.size w w' := by
  obtain ⟨hV0, hV, hL, _⟩ := checkFormula_ok hok
  have hee := rsEach P L 0
  have HEE := Ak hee; clear hee
  have HOK := Ak hok; have HRS := Ak hrs; clear hok hrs
  have H0 := Ak ((St.start w).box_new 24 #[.int .i64 V, .slice A0 L.length c0])
  have HR0 := Ak hr0; have HR1 := Ak hr1; clear hr0 hr1
  have hu24 := Try.underlying24
  go_enter Try.func65, Try.ntmps65
  go_upto_region 1 with fail
  generalize hgf : w.heap.size = gf at H0 ⊢
  generalize World.alloc _ _ = w1 at H0 ⊢
  subst hgf
  have q0 := H0.out.box_cell (i := 0) rfl 0
  have q1 := H0.out.box_cell (i := 0) rfl 1
  simp only [List.getElem?_toArray, List.getElem?_cons_zero, List.getElem?_cons_succ] at q0 q1
  go_wp2_with fail
  with_reducible refine (cnf_formulaErr.calls V A0 c0 L 0 _ (Kd.C_below HR0.out H0.out.below) hc0 (by unfold cnf_formulaErr.f cnf_CheckFormula.f; simp only [Option.bind_some, HOK.out])).mono ?_
  rintro e w2 ⟨rfl, hb⟩
  have H1 := Ak (H0.out.mv hb); clear hb H0 q0 q1
  have hp2 : (P.length : Int) ≤ 200000 := by omega
  go_wp2_with fail
  with_reducible refine (cnf_unless.calls true 8 0 _ (by rw [unless_dec]; simp)).mono ?_
  rintro e w3 ⟨rfl, hb⟩
  have H2 := Ak (H1.out.mv hb.below); clear hb H1
  go_wp2_with fail
  have H3 := Ak (H2.out.box_new 28 #[.int .i64 0, .int .i64 0]); clear H2
  generalize w3.heap.size = gq at H3 ⊢
  generalize World.alloc _ _ = w4 at H3 ⊢
  have hf := cnf_first.calls 3 _ 2 [0, 0] 0 _ (C_of_block (k := .i64) (H3.out.box_at (i := 0) rfl).1 (by simp)) (by simp) (by rw [first2]; simp)
  rw [show ([0, 0] : List Int).length = 2 from rfl] at hf
  have HF := Ak hf; clear hf
  with_reducible refine (HF.out).mono ?_
  clear HF
  rintro e w5 ⟨rfl, hb⟩
  have H4 := Ak ((H3.out.mv hb.below).drop 0); clear hb H3
  simp only [List.eraseIdx] at H4
  have q1 := H4.out.box_cell (i := 0) rfl 1
  simp only [List.getElem?_toArray, List.getElem?_cons_zero, List.getElem?_cons_succ] at q1
  go_wp2_with fail
  with_reducible refine (clone50 A0 c0 L w _ HR0.out H4.out.below hc0 (by omega)).mono ?_
  clear q1
  rintro e w6 ⟨v, rfl, hR, hb⟩
  have H5 := Ak (H4.out.row_new hb hR); clear hb hR H4
  obtain ⟨A, c, rfl, hc, _⟩ := H5.out.row_reads (i := 0) rfl
  go_upto_region 5 with fail
  have H6 := Ak (H5.out.box_new 22 #[.slice A L.length c]); clear H5
  generalize w6.heap.size = gl at H6 ⊢
  generalize World.alloc _ _ = w7 at H6 ⊢
  have hcall := each86 (fun (σ : List (List Int)) (_ : Nat) (s : S102) => ((0 : Int), σ ++ [rsRow σ s])) (fun i σ w' => ∃ v, St w w' [box gl 22 #[v], row w.heap.size (MX w) 25 v σ, box w.heap.size 24 #[.int .i64 V, .slice A0 L.length c0]] ∧ σ.length = L.length + i ∧ rsOk V σ (P.drop i) = true)
    87 #[.pointer (some ⟨gl, 0, none⟩), .pointer (some ⟨w.heap.size, 0, none⟩)] A1 c1 P (by omega) (enters_ Try.func87 rfl rfl) (fun i σ w' ⟨v, hs, _⟩ => Kd.C_below HR1.out hs.below) (fun i σ w' w2 ⟨v, hs, h2, h3⟩ hb => ⟨v, hs.mv hb, h2, h3⟩) (fun σ i w' ⟨v, hs, h2, h3⟩ hi => ?r1) L w7 ⟨_, H6.out, rfl, HRS.out⟩
  case r1 =>
    have hd : P.drop i = P.getD i z102 :: P.drop (i + 1) := by rw [List.drop_eq_getElem_cons hi]; simp [hi]
    rw [hd] at h3
    unfold rsOk at h3
    rw [Bool.and_eq_true] at h3
    refine (closure87 i (P.getD i z102) V σ gl w.heap.size (.slice A0 L.length c0) v w w w' hV (by omega) (Below.refl _ _) hs h3.1).mono ?_
    rintro e w2 ⟨he, v', hs'⟩
    exact ⟨he, v', hs', by rw [List.length_append, h2]; rfl, h3.2⟩
  rw [HEE.out] at hcall
  have HC := Ak hcall; clear hcall H6
  go_wp2_with fail
  with_reducible refine (HC.out).mono ?_
  clear HC
  rintro e w8 ⟨rfl, j, v, hs, _, _⟩
  have H7 := Ak hs; clear hs
  have q1 := H7.out.box_cell (i := 0) rfl 0
  simp only [List.getElem?_toArray, List.getElem?_cons_zero, List.getElem?_cons_succ] at q1
  go_wp2
  go_ret3
  exact ⟨v, rfl, H7.out.row_out (i := 1) rfl, H7.out.below⟩
theorem isEmpty66 (A : Option Addr) (c : Nat) (l : List Int) (w : World) (hl : l.length ≤ 9223372036854775807) : Calls Try.prog 66 #[.slice A l.length c] w fun e w' => e = .returned (.bool (decide (l.length = 0))) ∧ w' = w := by
  go_enter Try.func66, Try.ntmps66
  by_cases h : l.length = 0
  · have h0 : ((l.length : Int) == 0) = true := by simp [h]
    go_wp2
    go_ret
    exact ⟨by simp [h], rfl⟩
  · have h0 : ((l.length : Int) == 0) = false := by simp [h]
    go_wp2
    go_ret
    exact ⟨by simp [h], rfl⟩
def ckWell (V : Int) (L : List (List Int)) (P : List S102) : Bool :=
  decide ((checkFormula V L).2 = 0) && decide (P.length ≤ 200000) && rsOk V L P && decide (0 < (rsAll L P).length) && decide ((rdL (rsAll L P) (((rsAll L P).length : Int) - 1)).length = 0)
def cnf_CheckProof.f (a0_0 : Int) (l0_1 : List (List Int)) (l1 : List S102) : Option (Int × Int) := if ckWell a0_0 l0_1 l1 = true then some (0, 0) else none
set_option maxHeartbeats 8000000 in
set_option maxRecDepth 100000 in
theorem cnf_CheckProof.calls (a0_0 : Int) (A0_1 : Option Addr) (c0_1 : Nat) (l0_1 : List (List Int)) (A1 : Option Addr) (c1 : Nat) (l1 : List S102) (r1 r2 : Int) (w : World) (hr0_1 : Kd.C (Kd.slice 3 (Kd.int .i64)) w A0_1 l0_1.length l0_1) (hc0_1 : l0_1.length ≤ c0_1) (hr1 : k102.C w A1 l1.length l1) (hc1 : l1.length ≤ c1) (h : cnf_CheckProof.f a0_0 l0_1 l1 = some (r1, r2)) :
    Calls Try.prog 34 #[.agg #[.int .i64 a0_0, .slice A0_1 l0_1.length c0_1], .slice A1 l1.length c1] w fun e w' => e = .returned (.tuple #[.int .i64 r1, .int .i64 r2]) ∧ Below w.heap.size w w' := by
  unfold cnf_CheckProof.f at h
  split at h
  case isFalse => simp at h
  rename_i hw
  injection h with h
  injection h with h1 h2
  subst h1; subst h2
  unfold ckWell at hw
  simp only [Bool.and_eq_true, decide_eq_true_eq] at hw
  obtain ⟨⟨⟨⟨hok, hp⟩, hrs⟩, hlen⟩, hlast⟩ := hw
  have hres := fun W h0 h1 => resolved65 a0_0 A0_1 c0_1 l0_1 A1 c1 l1 W h0 hc0_1 h1 hc1 hok hp hrs
  generalize rsAll l0_1 l1 = l at hres hlen hlast
  obtain ⟨m, hm⟩ : ∃ m, l.length = m + 1 := ⟨l.length - 1, by omega⟩
  rw [hm, show ((m + 1 : Nat) : Int) - 1 = (m : Int) from by omega] at hlast
  have HM := Ak hm; have HLA := Ak hlast; have HRES := Ak hres
  have HR0 := Ak hr0_1; have HR1 := Ak hr1
  have H0 := Ak ((St.start w).box_new 24 #[.int .i64 a0_0, .slice A0_1 l0_1.length c0_1])
  clear hm hlast hres hr0_1 hr1 hok hrs hlen
  have hu24 := Try.underlying24
  go_enter Try.func34, Try.ntmps34
  go_upto_region 1 with fail
  generalize hgf : w.heap.size = gf at H0 ⊢
  generalize World.alloc _ _ = w1 at H0 ⊢
  subst hgf
  have q0 := H0.out.box_cell (i := 0) rfl 0
  have q1 := H0.out.box_cell (i := 0) rfl 1
  simp only [List.getElem?_toArray, List.getElem?_cons_zero, List.getElem?_cons_succ] at q0 q1
  go_wp2_with fail
  with_reducible refine (HRES.out _ (Kd.C_below HR0.out H0.out.below) (Kd.C_below HR1.out H0.out.below)).mono ?_
  clear q0 q1
  rintro e w2 ⟨v, rfl, hR, hb⟩
  obtain ⟨A, c, rfl, hc, hMX⟩ := Kd.R_reads hR
  have hC := MX_reads hMX hb
  have H1 := Ak (H0.out.mv hb)
  have hln := hC.2.1
  rw [HM.out] at hln hc
  obtain ⟨ad, A', c', rfl, hx, hc', hC'⟩ := at_rows hC (m : Int) (by omega) (by rw [HM.out]; omega)
  rw [Int.toNat_natCast] at hx
  have hl1 : (rdL l (m : Int)).length ≤ 9223372036854775807 := by rw [HLA.out]; omega
  have he := fun W => isEmpty66 A' c' (rdL l (m : Int)) W hl1
  rw [HM.out]
  rw [HLA.out] at he hx
  simp only [eq_self, decide_true] at he
  have HE := Ak he
  clear hR hb hMX hC hC' hc' he hl1 H0
  go_wp2_with fail
  with_reducible refine (HE.out _).mono ?_
  clear hx
  rintro e w3 ⟨rfl, rfl⟩
  go_wp2_with fail
  with_reducible refine (cnf_unless.calls true 21 0 _ (by rw [unless_dec]; simp)).mono ?_
  rintro e w4 ⟨rfl, hb⟩
  have H2 := Ak (H1.out.mv hb.below); clear hb
  go_wp2
  go_ret2
  exact ⟨rfl, H2.out.below⟩
def ratchetlaw03_Proof.f  : Option ((List (S102))) := some (([(⟨0, 1, 1⟩ : S102), (⟨4, 2, 2⟩ : S102), (⟨5, 3, 3⟩ : S102)] : List (S102)))
set_option maxHeartbeats 8000000 in
set_option maxRecDepth 100000 in
theorem ratchetlaw03_Proof.calls  (r : List (S102)) (w : World) (h : ratchetlaw03_Proof.f  = some r) :
    Calls Try.prog 35 #[] w fun e w' => ∃ v0_ : Value, e = .returned (v0_) ∧ Kd.R k102 102 w' w.heap.size (fun _ => True) v0_ r ∧ Below w.heap.size w w' := by
  have hu102 := Try.underlying102
  have HB := Ak (Below.refl w.heap.size w)
  have H : (some (([(⟨0, 1, 1⟩ : S102), (⟨4, 2, 2⟩ : S102), (⟨5, 3, 3⟩ : S102)] : List (S102)))) = some r := h
  clear h
  obtain ⟨y140, hy140⟩ : ∃ y_ : List (S102), y_ = (([(⟨0, 1, 1⟩ : S102), (⟨4, 2, 2⟩ : S102), (⟨5, 3, 3⟩ : S102)] : List (S102))) := ⟨_, rfl⟩
  replace H : (some y140) = some r := by first | (rw [hy140]; with_reducible exact H) | (have H2_ := (Option.bind_some _ _).symm.trans H; rw [hy140]; with_reducible exact H2_) | (have H2_ := (Option.bind_some _ _).symm.trans H; with_reducible exact H2_) | with_reducible exact H | (rw [hy140]; exact H) | exact H
  have Ny140 := Ak hy140
  clear hy140
  obtain rfl := Option.some.inj H
  go_enter Try.func35, Try.ntmps35
  go_wp2_with (first | ((with_reducible refine gate_dst (N := 4) rfl ?_); refine Kd.R_lit k102 _ 102 ?hg (N := 4) ?hd (xs := ([(⟨0, 1, 1⟩ : S102), (⟨4, 2, 2⟩ : S102), (⟨5, 3, 3⟩ : S102)] : List (S102))) (inner := [.int .i64 0, .int .i64 1, .int .i64 1, .int .i64 4, .int .i64 2, .int .i64 2, .int .i64 5, .int .i64 3, .int .i64 3]) (ok := fun _ => True) (okp := fun _ => True) ?hr ?hp (fun _ hk => hk) trivial (Below.refl _ _) (Nat.le_refl _) (by simp) ?_; (case hd => rfl); (case hg => rfl); (case hr => first | (go_simp; done) | (go_simp; rfl)); (case hp => exact (Reps.c3 (show Kd.M k102 _ _ _ (⟨0, 1, 1⟩ : S102) [.int .i64 0, .int .i64 1, .int .i64 1] from (k102_mkM _ _ _ (⟨0, 1, 1⟩ : S102) )) (Reps.c3 (show Kd.M k102 _ _ _ (⟨4, 2, 2⟩ : S102) [.int .i64 4, .int .i64 2, .int .i64 2] from (k102_mkM _ _ _ (⟨4, 2, 2⟩ : S102) )) (Reps.c3 (show Kd.M k102 _ _ _ (⟨5, 3, 3⟩ : S102) [.int .i64 5, .int .i64 3, .int .i64 3] from (k102_mkM _ _ _ (⟨5, 3, 3⟩ : S102) )) (Reps.none _ _))))); intro v141 w1 ho2 hb hg_ hnew_; clear hg_ hnew_; (first | rw [← Ny140.out] at ho2 | (simp only [Int.reduceToNat] at ho2; rw [← Ny140.out] at ho2)); have n0_ := Ak (Kd.R_lower ho2 (below_size (by repeat (first | (with_reducible first | exact HB.out | apply below_alloc | apply pw_below_drewN | apply below_drew1) | exact HB.out)))); have n1_ := Ak (below_step (by repeat (first | (with_reducible first | exact HB.out | apply below_alloc | apply pw_below_drewN | apply below_drew1) | exact HB.out)) hb); clear HB; have HO142 := n0_; have HB := n1_; clear n0_ n1_; clear hb ho2))
  go_ret
  exact ⟨_, by first | rfl | (simp [errW_none, errW_some] <;> rfl) | (simp [*, errW_none, errW_some] <;> rfl), by (with_reducible repeat (first | apply Kd.R_alloc | apply Kd.R_drewN | apply Kd.R_drew)); exact HO142.out, by repeat (first | (with_reducible first | exact HB.out | apply below_alloc | apply pw_below_drewN | apply below_drew1) | exact HB.out)⟩
end Go.Proofs.Ytapbkoolddnjgaa.PA
