/- What the claim needs of PAx5: lemmas and contracts, cut by a program to what is used. -/
import Derived.Test.YtapbkoolddnjgaaQfPAx0
import Derived.Test.YtapbkoolddnjgaaQfPAx3
import Derived.Test.YtapbkoolddnjgaaQfPAx4
namespace Go.Proofs.Ytapbkoolddnjgaa.PA
open Go.RowKit Go.Proofs.YtapbkoolddnjgaaW.PrintWords Go.Proofs.YtapbkoolddnjgaaW.PrintLast Go.Proofs.YtapbkoolddnjgaaW.PrintMore Go.Proofs.Sl
attribute [local go_sem] max2_int min2_int max_two min_two max_three min_three max_four min_four
set_option linter.unusedVariables false
set_option linter.unusedSimpArgs false
theorem countP_set {l : List Int} {i : Nat} {x : Int} (hi : i < l.length) (h0 : l[i] = 0) (hx : x ≠ 0) : (l.set i x).countP (fun y => y != 0) = l.countP (fun y => y != 0) + 1 := by
  induction l generalizing i with
  | nil => simp at hi
  | cons a l ih =>
    cases i with
    | zero =>
      have ha : a = 0 := by simpa using h0
      subst ha
      have hb : (x != 0) = true := by simpa using hx
      simp [List.countP_cons, hb]
    | succ i =>
      have hi' : i < l.length := by simpa using hi
      have := ih hi' (by simpa using h0)
      simp only [Lc, List.countP_cons, this]
      omega
theorem Sv.Ok.assume {s : Sv} (h : s.Ok) {n r : Int} (hn : n ≠ 0 ∧ -s.vars ≤ n ∧ n ≤ s.vars) (h0 : litVal s.vals n = 0) : (s.assume n r).Ok := by
  have hv := h.vals; have hv1 := h.vars1
  have hlt : n.natAbs < s.vals.length := by omega
  have hz : s.vals[n.natAbs] = 0 := by
    unfold litVal rd at h0
    by_cases hl : n < 0
    · rw [if_pos hl, show (-n).toNat = n.natAbs by omega] at h0
      simp [hlt] at h0; exact h0
    · rw [if_neg hl, show n.toNat = n.natAbs by omega] at h0
      simp [hlt] at h0; exact h0
  have hno : ∀ m ∈ s.trail, m.natAbs ≠ n.natAbs := by
    refine tv_zero.1 ?_
    rw [← h.det _ hlt, List.getD_eq_getElem?_getD, List.getElem?_eq_getElem hlt]
    exact hz
  refine ⟨h.vars0, h.vars1, ?_, ?_, h.lits, h.clen, h.llen, ?_, ?_, h.done0, ?_, ?_, h.occ, h.olen, ?_, ?_⟩
  · show ((setLit s.vals n).length : Int) = s.vars + 1
    unfold setLit; simpa using hv
  · intro x hx
    have hx' : x ∈ setLit s.vals n := hx
    unfold setLit at hx'
    rcases List.mem_or_eq_of_mem_set hx' with hx' | hx'
    · exact h.unit x hx'
    · rw [hx']; split
      · exact .inl rfl
      · exact .inr (.inr rfl)
  · show (s.reasons ++ [r]).length = (s.trail ++ [n]).length
    simp [h.same]
  · show (s.trail ++ [n]).length ≤ (setLit s.vals n).countP _
    unfold setLit
    rw [countP_set hlt hz (by split <;> decide)]
    have := h.few
    simp; omega
  · show s.done ≤ ((s.trail ++ [n]).length : Int)
    have := h.done1
    simp; omega
  · intro m hm
    have hm' : m ∈ s.trail ++ [n] := hm
    rcases List.mem_append.1 hm' with hm' | hm'
    · exact h.tlits m hm'
    · rw [List.mem_singleton.1 hm']; exact hn
  · intro i hi
    have hi' : i < (setLit s.vals n).length := hi
    have hl2 : (setLit s.vals n).length = s.vals.length := by unfold setLit; simp
    show (setLit s.vals n).getD i 0 = tv (s.trail ++ [n]) i
    by_cases e : i = n.natAbs
    · subst e
      have hg : (setLit s.vals n).getD n.natAbs 0 = if n < 0 then -1 else 1 := by
        unfold setLit; simp [hlt]
      rw [hg]
      unfold tv
      by_cases hneg : n < 0
      · rw [if_pos hneg]
        have h1 : ¬ ((n.natAbs : Int) ∈ s.trail ++ [n]) := by
          intro hm
          rcases List.mem_append.1 hm with hm | hm
          · exact hno _ hm (by omega)
          · have := List.mem_singleton.1 hm; omega
        have h2 : -(n.natAbs : Int) ∈ s.trail ++ [n] := List.mem_append.2 (.inr (List.mem_singleton.2 (by omega)))
        rw [if_neg h1, if_pos h2]
      · rw [if_neg hneg]
        have h2 : (n.natAbs : Int) ∈ s.trail ++ [n] := List.mem_append.2 (.inr (List.mem_singleton.2 (by omega)))
        rw [if_pos h2]
    · have hg : (setLit s.vals n).getD i 0 = s.vals.getD i 0 := by
        unfold setLit
        rw [List.getD_eq_getElem?_getD, List.getElem?_set_ne (by omega), ← List.getD_eq_getElem?_getD]
      rw [hg, h.det i (by omega)]
      unfold tv
      have h1 : ((i : Int) ∈ s.trail ++ [n]) ↔ (i : Int) ∈ s.trail := by
        rw [List.mem_append, List.mem_singleton]
        exact ⟨fun h => h.elim id (fun h => absurd h (by omega)), .inl⟩
      have h2 : (-(i : Int) ∈ s.trail ++ [n]) ↔ -(i : Int) ∈ s.trail := by
        rw [List.mem_append, List.mem_singleton]
        exact ⟨fun h => h.elim id (fun h => absurd h (by omega)), .inl⟩
      simp only [h1, h2]
  · show ((s.trail ++ [n]).map Int.natAbs).Nodup
    rw [List.map_append, List.nodup_append]
    refine ⟨h.nodup, by simp, fun a ha b hb => ?_⟩
    obtain ⟨m, hm, rfl⟩ := List.mem_map.1 ha
    obtain rfl : b = n.natAbs := by simpa using hb
    exact hno m hm
structure Sv.Alike (s s' : Sv) : Prop where
  vars : s'.vars = s.vars
  cl : s'.cl = s.cl
  occ : s'.occ = s.occ
  fuel : s'.fuel = s.fuel
  steps : s'.steps = s.steps
  failed : s'.failed = s.failed
  trail : ∃ l, s'.trail = s.trail ++ l
  reasons : ∃ l, s'.reasons = s.reasons ++ l
  done : s.done ≤ s'.done
theorem Sv.Alike.refl (s : Sv) : s.Alike s := ⟨rfl, rfl, rfl, rfl, rfl, rfl, ⟨[], by simp⟩, ⟨[], by simp⟩, Int.le_refl _⟩
theorem Sv.Alike.step (s : Sv) {d : Int} (h : s.done ≤ d) : s.Alike ({ s with done := d } : Sv) := ⟨rfl, rfl, rfl, rfl, rfl, rfl, ⟨[], by simp⟩, ⟨[], by simp⟩, h⟩
theorem Sv.Alike.assume (s : Sv) (n r : Int) : s.Alike (s.assume n r) := ⟨rfl, rfl, rfl, rfl, rfl, rfl, ⟨[n], rfl⟩, ⟨[r], rfl⟩, Int.le_refl _⟩
theorem Sv.Alike.trans {s t u : Sv} (h : s.Alike t) (k : t.Alike u) : s.Alike u := by
  obtain ⟨l, hl⟩ := h.trail
  obtain ⟨m, hm⟩ := k.trail
  obtain ⟨l', hl'⟩ := h.reasons
  obtain ⟨m', hm'⟩ := k.reasons
  exact ⟨k.vars.trans h.vars, k.cl.trans h.cl, k.occ.trans h.occ, k.fuel.trans h.fuel, k.steps.trans h.steps, k.failed.trans h.failed, ⟨l ++ m, by rw [hm, hl, List.append_assoc]⟩, ⟨l' ++ m', by rw [hm', hl', List.append_assoc]⟩, Int.le_trans h.done k.done⟩
theorem Sv.look_ok {s : Sv} (h : s.Ok) {i : Int} (h0 : 0 ≤ i) (h1 : i < s.cl.length) : (s.look i).2.Ok ∧ s.Alike (s.look i).2 ∧ (s.look i).2.done = s.done := by
  unfold Sv.look
  have hm := openRun_mem s.vals (rdL s.cl i) []
  generalize openRun s.vals [] (rdL s.cl i) = o at hm
  obtain ⟨l, dn⟩ := o
  dsimp only at hm ⊢
  split
  · exact ⟨h, .refl s, rfl⟩
  · rename_i hn
    cases l with
    | nil => exact ⟨h, .refl s, rfl⟩
    | cons n l =>
      have hd : dn = false := by
        cases dn
        · rfl
        · simp at hn
      have hn0 : litVal s.vals n = 0 := by
        rcases hm.2 hd n (List.mem_cons_self ..) with h | h
        · simp at h
        · exact h
      have hmem : n ∈ rdL s.cl i := by
        rcases hm.1 n (List.mem_cons_self ..) with h | h
        · simp at h
        · exact h
      exact ⟨h.assume (h.lits _ (h.clause h0 h1) n hmem) hn0, Sv.Alike.assume s n i, rfl⟩
def Sv.lookAll (s : Sv) : List Int → Int × Sv
  | [] => (-1, s)
  | i :: l => if (s.look i).1 = true then (i, (s.look i).2) else (s.look i).2.lookAll l
theorem Sv.lookAll_ok : ∀ {l : List Int} {s : Sv}, s.Ok → (∀ i ∈ l, 0 ≤ i ∧ i < s.cl.length) → (s.lookAll l).2.Ok ∧ s.Alike (s.lookAll l).2 ∧ (s.lookAll l).2.done = s.done
  | [], s, h, _ => ⟨h, .refl s, rfl⟩
  | i :: l, s, h, hl => by
    obtain ⟨k1, k2, k3⟩ := Sv.look_ok h (hl i (List.mem_cons_self ..)).1 (hl i (List.mem_cons_self ..)).2
    unfold Sv.lookAll
    split
    · exact ⟨k1, k2, k3⟩
    · obtain ⟨m1, m2, m3⟩ := Sv.lookAll_ok (l := l) k1 (fun j hj => by rw [k2.cl]; exact hl j (List.mem_cons_of_mem _ hj))
      exact ⟨m1, k2.trans m2, m3.trans k3⟩
def Sv.propagate : Nat → Sv → Int × Sv
  | 0, s => (-1, s)
  | k + 1, s => if s.done < s.trail.length then
      (if (({ s with done := s.done + 1 } : Sv).lookAll (occOf s.occ (-(rd s.trail s.done)))).1 = -1 then Sv.propagate k (({ s with done := s.done + 1 } : Sv).lookAll (occOf s.occ (-(rd s.trail s.done)))).2
       else ({ s with done := s.done + 1 } : Sv).lookAll (occOf s.occ (-(rd s.trail s.done)))) else (-1, s)
theorem occOf_mem {m : List (Int × List Int)} {n : Int} {P : Int → Prop} (h : ∀ p ∈ m, ∀ i ∈ p.2, P i) : ∀ i ∈ occOf m n, P i := by
  unfold occOf
  intro i hi
  induction m with
  | nil => simp [alook] at hi
  | cons p m ih =>
    obtain ⟨k, v⟩ := p
    unfold alook at hi
    by_cases hk : k = n
    · rw [if_pos hk] at hi
      exact h _ (List.mem_cons_self ..) i (by simpa using hi)
    · rw [if_neg hk] at hi
      exact ih (fun p hp => h p (List.mem_cons_of_mem _ hp)) hi
theorem occOf_len {m : List (Int × List Int)} {n : Int} {k : Nat} (h : ∀ p ∈ m, p.2.length ≤ k) : (occOf m n).length ≤ k := by
  unfold occOf
  induction m with
  | nil => simp [alook]
  | cons p m ih =>
    obtain ⟨k, v⟩ := p
    unfold alook
    by_cases hk : k = n
    · rw [if_pos hk]
      exact h _ (List.mem_cons_self ..)
    · rw [if_neg hk]
      exact ih (fun p hp => h p (List.mem_cons_of_mem _ hp))
theorem Sv.Ok.step {s : Sv} (h : s.Ok) (hd : s.done < s.trail.length) : ({ s with done := s.done + 1 } : Sv).Ok :=
  ⟨h.vars0, h.vars1, h.vals, h.unit, h.lits, h.clen, h.llen, h.same, h.few, by have := h.done0; show 0 ≤ s.done + 1; omega, by show s.done + 1 ≤ (s.trail.length : Int); omega, h.tlits, h.occ, h.olen, h.det, h.nodup⟩
theorem Sv.propagate_ok : ∀ {k : Nat} {s : Sv}, s.Ok → (Sv.propagate k s).2.Ok ∧ s.Alike (Sv.propagate k s).2
  | 0, s, h => ⟨h, .refl s⟩
  | k + 1, s, h => by
    unfold Sv.propagate
    split
    · rename_i hd
      have h1 := h.step hd
      obtain ⟨m1, m2, _⟩ := Sv.lookAll_ok (l := occOf s.occ (-(rd s.trail s.done))) h1 (occOf_mem h.occ)
      have ha : s.Alike ({ s with done := s.done + 1 } : Sv) := .step s (by omega)
      split
      · obtain ⟨q1, q2⟩ := Sv.propagate_ok (k := k) m1
        exact ⟨q1, (ha.trans m2).trans q2⟩
      · exact ⟨m1, ha.trans m2⟩
    · exact ⟨h, .refl s⟩
theorem fx_lookup {fx : Fx} {cl : List (List Int)} {occ : List (Int × List Int)} (h : fx.Ok cl occ) (n : Int) : ∃ A c, (occOf occ n).length ≤ c ∧ ∀ w, fx.At w → (Instr.lookup 78 (.map (some fx.b)) (.int .i64 n) false).run Try.prog w = .ok (.slice A (occOf occ n).length c) w ∧ Kd.C (Kd.int .i64) w A (occOf occ n).length (occOf occ n) := by
  obtain ⟨es, clock, fs, hE, hm, hl⟩ := h.map
  obtain ⟨A, c, hv, hc, hr⟩ := hl n
  refine ⟨A, c, hc, fun w hw => ⟨?_, hr w hw⟩⟩
  rw [← hv]
  exact run_lookup_int Try.underlying78 Try.underlying3 (hm w hw) hE (by kernel_rfl) n
set_option maxHeartbeats 8000000 in
set_option maxRecDepth 100000 in
theorem propagate76 (s : Sv) (fx : Fx) (g : Nat) (w : World) (R : List Asn) (h : IsSv fx w g s R) (hok : s.Ok) (hfx : fx.Ok s.cl s.occ) :
    Calls Try.prog 76 #[.pointer (some ⟨g, 0, none⟩)] w fun e w' => e = .returned (.int .i64 (Sv.propagate 1002 s).1) ∧ IsSv fx w' g (Sv.propagate 1002 s).2 R := by
  generalize hfin : Sv.propagate 1002 s = fin
  have hu82 := Try.underlying82
  have HF := Ak hfin; have HX := Ak hfx; have HOK := Ak hok; have H := Ak h
  clear hfin hfx hok h
  go_enter Try.func76, Try.ntmps76
  go_wp2
  go_loopg [3] 1002 (fun kq v3 wr => ∃ s' : Sv, Aside0 (IsSv fx wr g s' R) ∧ Aside0 s'.Ok ∧ Aside0 (s.Alike s') ∧ Aside0 (Sv.propagate kq s' = fin) ∧ Aside0 (1002 ≤ (kq : Int) + s'.done))
  case atStart => exact ⟨s, H, HOK, ⟨.refl s⟩, HF, ⟨by have := HOK.out.done0; omega⟩⟩
  case round =>
    obtain ⟨s1, H1, HO1, HA1, HP, HK⟩ := hrel
    obtain ⟨vV, tV, rV, h1⟩ := H1.out
    simp only [SvL, List.cons_append, List.nil_append] at h1
    obtain ⟨At, ct, rfl, hct, _⟩ := h1.row_reads (i := 3) rfl
    have H2 := Ak h1; clear h1 H1
    have htl := HO1.out.trail_le
    have hd0 := HO1.out.done0
    by_cases hlt : s1.done < s1.trail.length
    · obtain ⟨k1, rfl⟩ : ∃ m, gk = m + 1 := ⟨gk - 1, by have := HK.out; omega⟩
      have hp := HP.out
      unfold Sv.propagate at hp
      rw [if_pos hlt] at hp
      have HP1 := Ak hp; clear hp HP
      have hlt0 : ¬ ((s1.trail.length : Int) ≤ s1.done) := by omega
      have htr : ∃ ad, At = some ad := by
        obtain ⟨A7, c7, e7, _, hr7⟩ := H2.out.row_reads (i := 3) rfl
        injection e7 with e71 e72 e73
        subst e71
        obtain ⟨ad, he, _⟩ := Kd.at_int hr7 s1.done hd0 hlt
        exact ⟨ad, he⟩
      obtain ⟨adt, rfl⟩ := htr
      go_wp2
      have n0_ := Ak H2.out.drew
      clear H2
      have H2 := n0_
      clear n0_
      refine start_ (n := 10) (S := fun w' => St fx.w0 w' (box g 82 #[.int .i64 s1.vars, .slice fx.Ac s1.cl.length fx.cc, .map (some fx.b), vV, (.slice (some adt) s1.trail.length ct), rV, .int .i64 s1.done, .int .i64 s1.fuel, .int .i64 s1.steps, .slice none 0 0, .bool false, .bool s1.failed] :: fzA fx.wS fx.F0 :: row fx.w0.heap.size (Kd.int .i8) 96 vV s1.vals :: row fx.w0.heap.size (Kd.int .i64) 3 (.slice (some adt) s1.trail.length ct) s1.trail :: row fx.w0.heap.size (Kd.int .i64) 3 rV s1.reasons :: R)) (ds := []) #[false, false, false, false, false, false, false, false, false, false] (by kernel_rfl) rfl rfl (H2.out) (fun hHeld => ?_)
      generalize World.drew _ = w_0 at H2 hHeld ⊢
      refine pure_ (i := 0) (N := some 6) (v := ?_) (a' := ?_) #[true, false, false, false, false, false, false, false, false, false] rfl rfl (by kernel_rfl) (fun _ _ _ h => h) (Or.inl ⟨by rfl, ?_⟩) ?_ ?_
      rotate_left
      · intro w'
        go_simp
        with_reducible rfl
      rotate_left
      · (try simp only [Act.put, La, Lb, Lc, i64_w, i32_w])
        rfl
      refine pure_ (i := 1) (N := some 7) (v := ?_) (a' := ?_) #[true, true, false, false, false, false, false, false, false, false] rfl rfl (by kernel_rfl) (fun _ _ _ h => h) (Or.inl ⟨by rfl, ?_⟩) ?_ ?_
      rotate_left
      · intro w'
        go_simp
        with_reducible rfl
      rotate_left
      · (try simp only [Act.put, La, Lb, Lc, i64_w, i32_w])
        rfl
      refine pure_ (i := 2) (N := some 8) (v := ?_) (a' := ?_) #[true, true, true, false, false, false, false, false, false, false] rfl rfl (by kernel_rfl) (fun _ _ _ h => h) (Or.inl ⟨by rfl, ?_⟩) ?_ ?_
      rotate_left
      · intro w'
        go_simp
        with_reducible rfl
      rotate_left
      · (try simp only [Act.put, La, Lb, Lc, i64_w, i32_w])
        rfl
      refine take_ (i := 3) (N := some 9) (v := ?_) (a' := ?_) #[true, true, true, true, false, false, false, false, false, false] rfl rfl (by kernel_rfl) (fun _ _ _ h => h) (Or.inl ⟨by rfl, ?_⟩) hHeld ?_ ?_
      rotate_left
      · intro w' hs
        have k4 := hs.box_cell (i := 0) rfl 4
        have k6 := hs.box_cell (i := 0) rfl 6
        simp only [List.getElem?_toArray, List.getElem?_cons_zero, List.getElem?_cons_succ] at k4 k6
        go_simp
        with_reducible rfl
      rotate_left
      · (try simp only [Act.put, La, Lb, Lc, i64_w, i32_w])
        rfl
      refine pure_ (i := 4) (N := some 10) (v := ?_) (a' := ?_) #[true, true, true, true, true, false, false, false, false, false] rfl rfl (by kernel_rfl) (fun _ _ _ h => h) (Or.inl ⟨by rfl, ?_⟩) ?_ ?_
      rotate_left
      · intro w'
        go_simp
        with_reducible rfl
      rotate_left
      · (try simp only [Act.put, La, Lb, Lc, i64_w, i32_w])
        rfl
      refine pure_ (i := 5) (N := some 11) (v := ?_) (a' := ?_) #[true, true, true, true, true, true, false, false, false, false] rfl rfl (by kernel_rfl) (fun _ _ _ h => h) (Or.inl ⟨by rfl, ?_⟩) ?_ ?_
      rotate_left
      · intro w'
        go_simp
        with_reducible rfl
      rotate_left
      · (try simp only [Act.put, La, Lb, Lc, i64_w, i32_w])
        rfl
      refine pure_ (i := 6) (N := some 12) (v := ?_) (a' := ?_) #[true, true, true, true, true, true, true, false, false, false] rfl rfl (by kernel_rfl) (fun _ _ _ h => h) (Or.inl ⟨by rfl, ?_⟩) ?_ ?_
      rotate_left
      · intro w'
        go_simp
        with_reducible rfl
      rotate_left
      · (try simp only [Act.put, La, Lb, Lc, i64_w, i32_w])
        rfl
      refine take_ (i := 7) (N := some 13) (v := ?_) (a' := ?_) #[true, true, true, true, true, true, true, true, false, false] rfl rfl (by kernel_rfl) (fun _ _ _ h => h) (Or.inl ⟨by rfl, ?_⟩) hHeld ?_ ?_
      rotate_left
      · intro w' hs
        have k4 := hs.box_cell (i := 0) rfl 4
        have k6 := hs.box_cell (i := 0) rfl 6
        simp only [List.getElem?_toArray, List.getElem?_cons_zero, List.getElem?_cons_succ] at k4 k6
        go_simp
        with_reducible rfl
      rotate_left
      · (try simp only [Act.put, La, Lb, Lc, i64_w, i32_w])
        rfl
      refine pure_ (i := 8) (N := some 14) (v := ?_) (a' := ?_) #[true, true, true, true, true, true, true, true, true, false] rfl rfl (by kernel_rfl) (fun _ _ _ h => h) (Or.inl ⟨by rfl, ?_⟩) ?_ ?_
      rotate_left
      · intro w'
        go_simp
        with_reducible rfl
      rotate_left
      · (try simp only [Act.put, La, Lb, Lc, i64_w, i32_w])
        rfl
      refine pure_ (i := 9) (N := some 15) (v := ?_) (a' := ?_) #[true, true, true, true, true, true, true, true, true, true] rfl rfl (by kernel_rfl) (fun _ _ _ h => h) (Or.inl ⟨by rfl, ?_⟩) ?_ ?_
      rotate_left
      · intro w'
        go_simp
        with_reducible rfl
      rotate_left
      · (try simp only [Act.put, La, Lb, Lc, i64_w, i32_w])
        rfl
      refine done_ (by kernel_rfl) ?_
      go_wp2
      have n0_ := Ak H2.out.drew
      clear H2
      have H2 := n0_
      clear n0_
      refine start_ (n := 11) (S := fun w' => St fx.w0 w' (box g 82 #[.int .i64 s1.vars, .slice fx.Ac s1.cl.length fx.cc, .map (some fx.b), vV, (.slice (some adt) s1.trail.length ct), rV, .int .i64 s1.done, .int .i64 s1.fuel, .int .i64 s1.steps, .slice none 0 0, .bool false, .bool s1.failed] :: fzA fx.wS fx.F0 :: row fx.w0.heap.size (Kd.int .i8) 96 vV s1.vals :: row fx.w0.heap.size (Kd.int .i64) 3 (.slice (some adt) s1.trail.length ct) s1.trail :: row fx.w0.heap.size (Kd.int .i64) 3 rV s1.reasons :: R)) (ds := []) #[false, false, false, false, false, false, false, false, false, false, false] (by kernel_rfl) rfl rfl (H2.out) (fun hHeld => ?_)
      generalize World.drew _ = w_1 at H2 hHeld ⊢
      refine pure_ (i := 0) (N := some 16) (v := ?_) (a' := ?_) #[true, false, false, false, false, false, false, false, false, false, false] rfl rfl (by kernel_rfl) (fun _ _ _ h => h) (Or.inl ⟨by rfl, ?_⟩) ?_ ?_
      rotate_left
      · intro w'
        go_simp
        with_reducible rfl
      rotate_left
      · (try simp only [Act.put, La, Lb, Lc, i64_w, i32_w])
        rfl
      refine pure_ (i := 1) (N := some 17) (v := ?_) (a' := ?_) #[true, true, false, false, false, false, false, false, false, false, false] rfl rfl (by kernel_rfl) (fun _ _ _ h => h) (Or.inl ⟨by rfl, ?_⟩) ?_ ?_
      rotate_left
      · intro w'
        go_simp
        with_reducible rfl
      rotate_left
      · (try simp only [Act.put, La, Lb, Lc, i64_w, i32_w])
        rfl
      refine pure_ (i := 2) (N := some 18) (v := ?_) (a' := ?_) #[true, true, true, false, false, false, false, false, false, false, false] rfl rfl (by kernel_rfl) (fun _ _ _ h => h) (Or.inl ⟨by rfl, ?_⟩) ?_ ?_
      rotate_left
      · intro w'
        go_simp
        with_reducible rfl
      rotate_left
      · (try simp only [Act.put, La, Lb, Lc, i64_w, i32_w])
        rfl
      refine take_ (i := 3) (N := some 19) (v := ?_) (a' := ?_) #[true, true, true, true, false, false, false, false, false, false, false] rfl rfl (by kernel_rfl) (fun _ _ _ h => h) (Or.inl ⟨by rfl, ?_⟩) hHeld ?_ ?_
      rotate_left
      · intro w' hs
        have k4 := hs.box_cell (i := 0) rfl 4
        have k6 := hs.box_cell (i := 0) rfl 6
        obtain ⟨A7, c7, e7, _, hr7⟩ := hs.row_reads (i := 3) rfl
        injection e7 with e71 e72 e73
        subst e71
        subst e73
        clear e72
        obtain ⟨ad8, e8, k8⟩ := Kd.at_int hr7 s1.done hd0 hlt
        injection e8 with e8
        subst e8
        simp only [List.getElem?_toArray, List.getElem?_cons_zero, List.getElem?_cons_succ] at k4 k6
        go_simp
        with_reducible rfl
      rotate_left
      · (try simp only [Act.put, La, Lb, Lc, i64_w, i32_w])
        rfl
      refine pure_ (i := 4) (N := some 20) (v := ?_) (a' := ?_) #[true, true, true, true, true, false, false, false, false, false, false] rfl rfl (by kernel_rfl) (fun _ _ _ h => h) (Or.inl ⟨by rfl, ?_⟩) ?_ ?_
      rotate_left
      · intro w'
        go_simp
        with_reducible rfl
      rotate_left
      · (try simp only [Act.put, La, Lb, Lc, i64_w, i32_w])
        rfl
      refine pure_ (i := 5) (N := some 21) (v := ?_) (a' := ?_) #[true, true, true, true, true, true, false, false, false, false, false] rfl rfl (by kernel_rfl) (fun _ _ _ h => h) (Or.inl ⟨by rfl, ?_⟩) ?_ ?_
      rotate_left
      · intro w'
        go_simp
        with_reducible rfl
      rotate_left
      · (try simp only [Act.put, La, Lb, Lc, i64_w, i32_w])
        rfl
      refine pure_ (i := 6) (N := some 22) (v := ?_) (a' := ?_) #[true, true, true, true, true, true, true, false, false, false, false] rfl rfl (by kernel_rfl) (fun _ _ _ h => h) (Or.inl ⟨by rfl, ?_⟩) ?_ ?_
      rotate_left
      · intro w'
        go_simp
        with_reducible rfl
      rotate_left
      · (try simp only [Act.put, La, Lb, Lc, i64_w, i32_w])
        rfl
      refine take_ (i := 7) (N := some 23) (v := ?_) (a' := ?_) #[true, true, true, true, true, true, true, true, false, false, false] rfl rfl (by kernel_rfl) (fun _ _ _ h => h) (Or.inl ⟨by rfl, ?_⟩) hHeld ?_ ?_
      rotate_left
      · intro w' hs
        have k4 := hs.box_cell (i := 0) rfl 4
        have k6 := hs.box_cell (i := 0) rfl 6
        obtain ⟨A7, c7, e7, _, hr7⟩ := hs.row_reads (i := 3) rfl
        injection e7 with e71 e72 e73
        subst e71
        subst e73
        clear e72
        obtain ⟨ad8, e8, k8⟩ := Kd.at_int hr7 s1.done hd0 hlt
        injection e8 with e8
        subst e8
        simp only [List.getElem?_toArray, List.getElem?_cons_zero, List.getElem?_cons_succ] at k4 k6
        go_simp
        with_reducible rfl
      rotate_left
      · (try simp only [Act.put, La, Lb, Lc, i64_w, i32_w])
        rfl
      refine pure_ (i := 8) (N := some 24) (v := ?_) (a' := ?_) #[true, true, true, true, true, true, true, true, true, false, false] rfl rfl (by kernel_rfl) (fun _ _ _ h => h) (Or.inl ⟨by rfl, ?_⟩) ?_ ?_
      rotate_left
      · intro w'
        go_simp
        with_reducible rfl
      rotate_left
      · (try simp only [Act.put, La, Lb, Lc, i64_w, i32_w])
        rfl
      refine take_ (i := 9) (N := some 25) (v := ?_) (a' := ?_) #[true, true, true, true, true, true, true, true, true, true, false] rfl rfl (by kernel_rfl) (fun _ _ _ h => h) (Or.inl ⟨by rfl, ?_⟩) hHeld ?_ ?_
      rotate_left
      · intro w' hs
        have k4 := hs.box_cell (i := 0) rfl 4
        have k6 := hs.box_cell (i := 0) rfl 6
        obtain ⟨A7, c7, e7, _, hr7⟩ := hs.row_reads (i := 3) rfl
        injection e7 with e71 e72 e73
        subst e71
        subst e73
        clear e72
        obtain ⟨ad8, e8, k8⟩ := Kd.at_int hr7 s1.done hd0 hlt
        injection e8 with e8
        subst e8
        simp only [List.getElem?_toArray, List.getElem?_cons_zero, List.getElem?_cons_succ] at k4 k6
        go_simp
        with_reducible rfl
      rotate_left
      · (try simp only [Act.put, La, Lb, Lc, i64_w, i32_w])
        rfl
      refine pure_ (i := 10) (N := some 3) (v := ?_) (a' := ?_) #[true, true, true, true, true, true, true, true, true, true, true] rfl rfl (by kernel_rfl) (fun _ _ _ h => h) (Or.inl ⟨by rfl, ?_⟩) ?_ ?_
      rotate_left
      · intro w'
        go_simp
        with_reducible rfl
      rotate_left
      · (try simp only [Act.put, La, Lb, Lc, i64_w, i32_w])
        rfl
      refine done_ (by kernel_rfl) ?_
      have hlm := HO1.out.tlits _ (rd_mem hd0 hlt)
      generalize hlit : rd s1.trail s1.done = lit at HP1 hlm
      have HLI := Ak hlit; clear hlit
      have hs2 := H2.out
      have c6 := hs2.box_cell (i := 0) rfl 6; have f6 := hs2.box_free (i := 0) rfl 6
      simp only [List.getElem?_toArray, List.getElem?_cons_zero, List.getElem?_cons_succ] at c6
      clear hs2 hHeld
      go_upto_region 4 with fail
      have hs3 := H2.out.box_set (i := 0) rfl 6 (.int .i64 (s1.done + 1))
      simp only [List.set, La, Lb, Lc] at hs3
      have H3 := Ak hs3; clear hs3 H2 c6 f6
      generalize World.setCell w_1 _ _ = w3 at H3 ⊢
      have c2 := H3.out.box_cell (i := 0) rfl 2
      simp only [List.getElem?_toArray, List.getElem?_cons_zero, List.getElem?_cons_succ] at c2
      have hx1 : fx.Ok s1.cl s1.occ := by rw [HA1.out.cl, HA1.out.occ]; exact HX.out
      obtain ⟨Ao, co, hco, hlo⟩ := fx_lookup hx1 (-lit)
      have HX1 := Ak hx1; have HLO := Ak hlo; have HCO := Ak hco; clear hx1 hlo hco
      have hlk := (HLO.out _ (fx_at H3.out (i := 1) rfl)).1
      have hin := occOf_mem (n := -lit) HO1.out.occ
      have hol := occOf_len (n := -lit) HO1.out.olen
      generalize hoc : occOf s1.occ (-lit) = oc at HP1 HLO HCO hlk hin hol
      have HIN := Ak hin; clear hin hoc
      have hl1 : -1000 ≤ lit := by have := HO1.out.vars1; omega
      have hl2 : lit ≤ 1000 := by have := HO1.out.vars1; omega
      go_upto_region 5 with fail
      clear c2 hlk
      have hst := HO1.out.step hlt
      have hal : s.Alike ({ s1 with done := s1.done + 1 } : Sv) := HA1.out.trans (.step s1 (by omega))
      have hkk : 1002 ≤ (k1 : Int) + (s1.done + 1) := by have := HK.out; omega
      have H4 : Aside0 (IsSv fx w3 g ({ s1 with done := s1.done + 1 } : Sv) R) := ⟨_, _, _, H3.out⟩
      have hd1 : ({ s1 with done := s1.done + 1 } : Sv).done = s1.done + 1 := rfl
      have hcl : ({ s1 with done := s1.done + 1 } : Sv).cl = s1.cl := rfl
      have hoo : ({ s1 with done := s1.done + 1 } : Sv).occ = s1.occ := rfl
      generalize ({ s1 with done := s1.done + 1 } : Sv) = s3 at hst hal H4 HP1 hd1 hcl hoo
      have hin := HIN.out; rw [← hcl] at hin
      have hx3 := HX1.out; rw [← hcl, ← hoo] at hx3
      rw [← hd1] at hkk
      generalize hlk : s3.lookAll oc = lk at HP1
      have HLK := Ak hlk; have HIN3 := Ak hin; have HX3 := Ak hx3; have HK3 := Ak hkk; have HO3 := Ak hst; have HA3 := Ak hal
      clear hlk hin hx3 hkk hst hal hd1 hcl hoo HIN HX1 HK H3
      go_loopg [41] oc.length (fun kq v41 wr => ∃ (j : Nat) (s4 : Sv), v41 = .int .i64 (j : Int) ∧ Aside0 (j + kq = oc.length) ∧ Aside0 (IsSv fx wr g s4 R) ∧ Aside0 s4.Ok ∧ Aside0 (s3.Alike s4) ∧ Aside0 (s4.lookAll (oc.drop j) = lk) ∧ Aside0 (s4.done = s3.done))
      case atStart => exact ⟨0, s3, rfl, ⟨by omega⟩, H4, HO3, ⟨.refl _⟩, ⟨by simpa using HLK.out⟩, ⟨rfl⟩⟩
      case round =>
        obtain ⟨j, s4, rfl, HJ, H4, HO4, HA4, HLK, HD4⟩ := hrel
        by_cases hj : j < oc.length
        · have hi0 : (0 : Int) ≤ (j : Int) := by omega
          have hi1 : (j : Int) < (oc.length : Int) := by omega
          obtain ⟨vV4, tV4, rV4, h4⟩ := H4.out
          obtain ⟨ad, rfl, hx⟩ := Kd.at_int (HLO.out _ (fx_at h4 (i := 1) rfl)).2 (j : Int) hi0 (by omega)
          rw [Int.toNat_natCast] at hx
          have hd : oc.drop j = rd oc (j : Int) :: oc.drop (j + 1) := by
            rw [List.drop_eq_getElem_cons hj]; simp [rd, hj]
          have hlk := HLK.out; rw [hd] at hlk; unfold Sv.lookAll at hlk
          have HLK2 := Ak hlk
          have hmem := HIN3.out _ (rd_mem hi0 hi1)
          rw [← HA4.out.cl] at hmem
          have hx4 := HX3.out; rw [← HA4.out.cl, ← HA4.out.occ] at hx4
          have HM := Ak hmem; have HX4 := Ak hx4
          clear hlk hd HLK hmem hx4 h4
          go_wp2_with fail
          refine (look75 s4 (rd oc (j : Int)) fx g _ R H4.out HO4.out HX4.out HM.out).mono ?_
          clear hx
          rintro e w5 ⟨rfl, H5⟩
          obtain ⟨q1, q2, q3⟩ := Sv.look_ok HO4.out HM.out.1 HM.out.2
          have hli := HLK2.out
          have hm0 := HM.out.1
          generalize hL : s4.look (rd oc (j : Int)) = lo at H5 q1 q2 q3 hli
          obtain ⟨bo, s5⟩ := lo
          dsimp only at H5 q1 q2 q3 hli ⊢
          have H6 := Ak H5
          clear H5 H4 HLK2 hL
          cases bo
          · rw [if_neg (by decide)] at hli
            have HLK3 := Ak hli; clear hli
            have HQ1 := Ak q1; have HQ2 := Ak q2; have HQ3 := Ak q3; clear q1 q2 q3
            go_wp2
            go_roundg (gk - 1)
            case measure => have := HJ.out; omega
            case rel => exact ⟨j + 1, s5, by go_num, ⟨by have := HJ.out; omega⟩, H6, HQ1, ⟨HA4.out.trans HQ2.out⟩, HLK3, ⟨HQ3.out.trans HD4.out⟩⟩
          · rw [if_pos rfl] at hli
            have hp := HP1.out
            rw [← hli, if_neg (by dsimp only; omega)] at hp
            subst hp
            clear hli HP1 q1 q2 q3
            go_wp2
            go_ret
            exact ⟨rfl, H6.out⟩
        · have hi1 : ¬ (j : Int) < (oc.length : Int) := by omega
          have hlk := HLK.out; rw [List.drop_of_length_le (by omega)] at hlk; unfold Sv.lookAll at hlk
          have hp := HP1.out
          rw [← hlk, if_pos rfl] at hp
          have HPN := Ak hp
          have hmm : 1002 ≤ (k1 : Int) + s4.done := by have := HK3.out; rw [HD4.out]; exact this
          have HMM := Ak hmm
          clear hlk hp HP1 HLK hmm
          go_wp2
          go_roundg k1
          case measure => omega
          case rel => exact ⟨s4, H4, HO4, ⟨HA3.out.trans HA4.out⟩, HPN, HMM⟩
    · have hp := HP.out
      have hlt0 : (s1.trail.length : Int) ≤ s1.done := by omega
      have hpe : ∀ k, Sv.propagate k s1 = (-1, s1) := by
        intro k
        cases k with
        | zero => rfl
        | succ k => unfold Sv.propagate; rw [if_neg hlt]
      rw [hpe] at hp
      subst hp
      clear hpe HP HA1 HK
      go_wp2
      have n0_ := Ak H2.out.drew
      clear H2
      have H2 := n0_
      clear n0_
      refine start_ (n := 10) (S := fun w' => St fx.w0 w' (box g 82 #[.int .i64 s1.vars, .slice fx.Ac s1.cl.length fx.cc, .map (some fx.b), vV, (.slice At s1.trail.length ct), rV, .int .i64 s1.done, .int .i64 s1.fuel, .int .i64 s1.steps, .slice none 0 0, .bool false, .bool s1.failed] :: fzA fx.wS fx.F0 :: row fx.w0.heap.size (Kd.int .i8) 96 vV s1.vals :: row fx.w0.heap.size (Kd.int .i64) 3 (.slice At s1.trail.length ct) s1.trail :: row fx.w0.heap.size (Kd.int .i64) 3 rV s1.reasons :: R)) (ds := []) #[false, false, false, false, false, false, false, false, false, false] (by kernel_rfl) rfl rfl (H2.out) (fun hHeld => ?_)
      generalize World.drew _ = w_2 at H2 hHeld ⊢
      refine pure_ (i := 0) (N := some 6) (v := ?_) (a' := ?_) #[true, false, false, false, false, false, false, false, false, false] rfl rfl (by kernel_rfl) (fun _ _ _ h => h) (Or.inl ⟨by rfl, ?_⟩) ?_ ?_
      rotate_left
      · intro w'
        go_simp
        with_reducible rfl
      rotate_left
      · (try simp only [Act.put, La, Lb, Lc, i64_w, i32_w])
        rfl
      refine pure_ (i := 1) (N := some 7) (v := ?_) (a' := ?_) #[true, true, false, false, false, false, false, false, false, false] rfl rfl (by kernel_rfl) (fun _ _ _ h => h) (Or.inl ⟨by rfl, ?_⟩) ?_ ?_
      rotate_left
      · intro w'
        go_simp
        with_reducible rfl
      rotate_left
      · (try simp only [Act.put, La, Lb, Lc, i64_w, i32_w])
        rfl
      refine pure_ (i := 2) (N := some 8) (v := ?_) (a' := ?_) #[true, true, true, false, false, false, false, false, false, false] rfl rfl (by kernel_rfl) (fun _ _ _ h => h) (Or.inl ⟨by rfl, ?_⟩) ?_ ?_
      rotate_left
      · intro w'
        go_simp
        with_reducible rfl
      rotate_left
      · (try simp only [Act.put, La, Lb, Lc, i64_w, i32_w])
        rfl
      refine take_ (i := 3) (N := some 9) (v := ?_) (a' := ?_) #[true, true, true, true, false, false, false, false, false, false] rfl rfl (by kernel_rfl) (fun _ _ _ h => h) (Or.inl ⟨by rfl, ?_⟩) hHeld ?_ ?_
      rotate_left
      · intro w' hs
        have k4 := hs.box_cell (i := 0) rfl 4
        have k6 := hs.box_cell (i := 0) rfl 6
        simp only [List.getElem?_toArray, List.getElem?_cons_zero, List.getElem?_cons_succ] at k4 k6
        go_simp
        with_reducible rfl
      rotate_left
      · (try simp only [Act.put, La, Lb, Lc, i64_w, i32_w])
        rfl
      refine pure_ (i := 4) (N := some 10) (v := ?_) (a' := ?_) #[true, true, true, true, true, false, false, false, false, false] rfl rfl (by kernel_rfl) (fun _ _ _ h => h) (Or.inl ⟨by rfl, ?_⟩) ?_ ?_
      rotate_left
      · intro w'
        go_simp
        with_reducible rfl
      rotate_left
      · (try simp only [Act.put, La, Lb, Lc, i64_w, i32_w])
        rfl
      refine pure_ (i := 5) (N := some 11) (v := ?_) (a' := ?_) #[true, true, true, true, true, true, false, false, false, false] rfl rfl (by kernel_rfl) (fun _ _ _ h => h) (Or.inl ⟨by rfl, ?_⟩) ?_ ?_
      rotate_left
      · intro w'
        go_simp
        with_reducible rfl
      rotate_left
      · (try simp only [Act.put, La, Lb, Lc, i64_w, i32_w])
        rfl
      refine pure_ (i := 6) (N := some 12) (v := ?_) (a' := ?_) #[true, true, true, true, true, true, true, false, false, false] rfl rfl (by kernel_rfl) (fun _ _ _ h => h) (Or.inl ⟨by rfl, ?_⟩) ?_ ?_
      rotate_left
      · intro w'
        go_simp
        with_reducible rfl
      rotate_left
      · (try simp only [Act.put, La, Lb, Lc, i64_w, i32_w])
        rfl
      refine take_ (i := 7) (N := some 13) (v := ?_) (a' := ?_) #[true, true, true, true, true, true, true, true, false, false] rfl rfl (by kernel_rfl) (fun _ _ _ h => h) (Or.inl ⟨by rfl, ?_⟩) hHeld ?_ ?_
      rotate_left
      · intro w' hs
        have k4 := hs.box_cell (i := 0) rfl 4
        have k6 := hs.box_cell (i := 0) rfl 6
        simp only [List.getElem?_toArray, List.getElem?_cons_zero, List.getElem?_cons_succ] at k4 k6
        go_simp
        with_reducible rfl
      rotate_left
      · (try simp only [Act.put, La, Lb, Lc, i64_w, i32_w])
        rfl
      refine pure_ (i := 8) (N := some 14) (v := ?_) (a' := ?_) #[true, true, true, true, true, true, true, true, true, false] rfl rfl (by kernel_rfl) (fun _ _ _ h => h) (Or.inl ⟨by rfl, ?_⟩) ?_ ?_
      rotate_left
      · intro w'
        go_simp
        with_reducible rfl
      rotate_left
      · (try simp only [Act.put, La, Lb, Lc, i64_w, i32_w])
        rfl
      refine pure_ (i := 9) (N := some 15) (v := ?_) (a' := ?_) #[true, true, true, true, true, true, true, true, true, true] rfl rfl (by kernel_rfl) (fun _ _ _ h => h) (Or.inl ⟨by rfl, ?_⟩) ?_ ?_
      rotate_left
      · intro w'
        go_simp
        with_reducible rfl
      rotate_left
      · (try simp only [Act.put, La, Lb, Lc, i64_w, i32_w])
        rfl
      refine done_ (by kernel_rfl) ?_
      clear hHeld
      go_wp2
      go_ret
      exact ⟨rfl, _, _, _, H2.out⟩
def Sv.beginFrom (s : Sv) : Nat → List (List Int) → Int × Sv
  | _, [] => s.propagate 1002
  | i, c :: l => if c.length < 2 then (if (s.look (i : Int)).1 = true then ((i : Int), (s.look (i : Int)).2) else (s.look (i : Int)).2.beginFrom (i + 1) l) else s.beginFrom (i + 1) l
def Sv.begin (s : Sv) : Int × Sv := s.beginFrom 0 s.cl
theorem Sv.beginFrom_ok : ∀ {l : List (List Int)} {i : Nat} {s : Sv}, s.Ok → i + l.length ≤ s.cl.length → (s.beginFrom i l).2.Ok ∧ s.Alike (s.beginFrom i l).2
  | [], i, s, h, _ => Sv.propagate_ok h
  | c :: l, i, s, h, hl => by
    simp only [List.length_cons] at hl
    unfold Sv.beginFrom
    obtain ⟨k1, k2, k3⟩ := Sv.look_ok h (i := (i : Int)) (by omega) (by omega)
    split
    · split
      · exact ⟨k1, k2⟩
      · obtain ⟨m1, m2⟩ := Sv.beginFrom_ok (l := l) (i := i + 1) k1 (by rw [k2.cl]; omega)
        exact ⟨m1, k2.trans m2⟩
    · exact Sv.beginFrom_ok (l := l) (i := i + 1) h (by omega)
theorem Sv.begin_ok {s : Sv} (h : s.Ok) : s.begin.2.Ok ∧ s.Alike s.begin.2 := Sv.beginFrom_ok h (by omega)
set_option maxHeartbeats 8000000 in
set_option maxRecDepth 100000 in
theorem begin55 (s : Sv) (fx : Fx) (g : Nat) (w : World) (R : List Asn) (h : IsSv fx w g s R) (hok : s.Ok) (hfx : fx.Ok s.cl s.occ) :
    Calls Try.prog 55 #[.pointer (some ⟨g, 0, none⟩)] w fun e w' => e = .returned (.int .i64 s.begin.1) ∧ IsSv fx w' g s.begin.2 R := by
  generalize hfin : s.begin = fin
  unfold Sv.begin at hfin
  have hu82 := Try.underlying82
  obtain ⟨vV, tV, rV, h⟩ := h
  simp only [SvL, List.cons_append, List.nil_append] at h
  have c1 := h.box_cell (i := 0) rfl 1
  simp only [List.getElem?_toArray, List.getElem?_cons_zero, List.getElem?_cons_succ] at c1
  have hcl := hok.clen
  have HF := Ak hfin; have HX := Ak hfx; have HOK := Ak hok
  have H : Aside0 (IsSv fx w g s R) := ⟨_, _, _, h⟩
  clear hfin hfx hok h
  go_enter Try.func55, Try.ntmps55
  go_wp2
  clear c1
  go_loopg [10] s.cl.length (fun kq v10 wr => ∃ (j : Nat) (s' : Sv), v10 = .int .i64 (j : Int) ∧ Aside0 (j + kq = s.cl.length) ∧ Aside0 (IsSv fx wr g s' R) ∧ Aside0 s'.Ok ∧ Aside0 (s.Alike s') ∧ Aside0 (s'.beginFrom j (s.cl.drop j) = fin))
  case atStart => exact ⟨0, s, rfl, ⟨by omega⟩, H, HOK, ⟨.refl s⟩, ⟨by simpa using HF.out⟩⟩
  case round =>
    obtain ⟨j, s1, rfl, HJ, H1, HO1, HA1, HP⟩ := hrel
    have hx1 : fx.Ok s1.cl s1.occ := by rw [HA1.out.cl, HA1.out.occ]; exact HX.out
    have HX1 := Ak hx1; clear hx1
    by_cases hj : j < s.cl.length
    · have hi0 : (0 : Int) ≤ (j : Int) := by omega
      have hi1 : (j : Int) < (s.cl.length : Int) := by omega
      obtain ⟨vV4, tV4, rV4, h4⟩ := H1.out
      obtain ⟨ad, A, c, hAc, hlc, hw⟩ := HX.out.row (j : Int) hi0 hi1
      have hx := (hw _ (fx_at h4 (i := 1) rfl)).1
      rw [Int.toNat_natCast] at hx
      have hd : s.cl.drop j = rdL s.cl (j : Int) :: s.cl.drop (j + 1) := by
        rw [List.drop_eq_getElem_cons hj]; simp [rdL, hj]
      have hp := HP.out; rw [hd] at hp; unfold Sv.beginFrom at hp
      have hlen := HOK.out.llen _ (HOK.out.clause hi0 hi1)
      have hok1 : 0 ≤ (j : Int) ∧ (j : Int) < s1.cl.length := ⟨by omega, by rw [HA1.out.cl]; omega⟩
      have HIN := Ak hok1
      rw [hAc]
      by_cases h2 : (rdL s.cl (j : Int)).length < 2
      · rw [if_pos h2] at hp
        have HP1 := Ak hp
        have h20 : ((rdL s.cl (j : Int)).length : Int) < 2 := by omega
        have h21 : (rdL s.cl (j : Int)).length ≤ 1 := by omega
        clear hp HP hd h4 hw hok1 h2 hlc
        go_wp2_with fail
        refine (look75 s1 (j : Int) fx g _ R H1.out HO1.out HX1.out HIN.out).mono ?_
        clear hx
        rintro e w5 ⟨rfl, H5⟩
        obtain ⟨q1, q2, q3⟩ := Sv.look_ok HO1.out HIN.out.1 HIN.out.2
        have hli := HP1.out
        generalize hL : s1.look (j : Int) = lo at H5 q1 q2 q3 hli
        obtain ⟨bo, s5⟩ := lo
        dsimp only at H5 q1 q2 q3 hli ⊢
        have H6 := Ak H5
        clear H5 H1 HP1 hL
        cases bo
        · rw [if_neg (by decide)] at hli
          have HLK3 := Ak hli; clear hli
          have HQ1 := Ak q1; have HQ2 := Ak q2; clear q1 q2 q3
          go_wp2
          rw [← hAc]
          go_roundg (gk - 1)
          case measure => have := HJ.out; omega
          case rel => exact ⟨j + 1, s5, by go_num, ⟨by have := HJ.out; omega⟩, H6, HQ1, ⟨HA1.out.trans HQ2.out⟩, HLK3⟩
        · rw [if_pos rfl] at hli
          subst hli
          clear q1 q2 q3 HF
          go_wp2
          go_ret
          exact ⟨rfl, H6.out⟩
      · rw [if_neg h2] at hp
        have HP1 := Ak hp
        have h20 : ¬ ((rdL s.cl (j : Int)).length : Int) < 2 := by omega
        have h21 : ¬ (rdL s.cl (j : Int)).length ≤ 1 := by omega
        clear hp HP hd h4 hw hok1 h2 hlc
        go_wp2
        rw [← hAc]
        go_roundg (gk - 1)
        case measure => have := HJ.out; omega
        case rel => exact ⟨j + 1, s1, by go_num, ⟨by have := HJ.out; omega⟩, H1, HO1, HA1, HP1⟩
    · have hi1 : ¬ (j : Int) < (s.cl.length : Int) := by omega
      have hp := HP.out; rw [List.drop_of_length_le (by omega)] at hp; unfold Sv.beginFrom at hp
      have HP1 := Ak hp
      clear hp HP
      go_wp2_with fail
      refine (propagate76 s1 fx g _ R H1.out HO1.out HX1.out).mono ?_
      rintro e w5 ⟨rfl, H5⟩
      have hp := HP1.out
      rw [hp] at H5 ⊢
      have H6 := Ak H5; clear H5 H1 hp HP1
      go_wp2
      go_ret
      exact ⟨rfl, H6.out⟩
theorem aput_mem {β : Type} : ∀ {m : List (Int × β)} {n : Int} {x : β} {p : Int × β}, p ∈ aput m n x → p ∈ m ∨ p.2 = x
  | [], n, x, p, h => by
    have : p = (n, x) := by simpa [aput] using h
    subst this; exact .inr rfl
  | (k, v) :: m, n, x, p, h => by
    unfold aput at h
    split at h
    · rcases List.mem_cons.1 h with rfl | h
      · exact .inr rfl
      · exact .inl (List.mem_cons_of_mem _ h)
    · rcases List.mem_cons.1 h with rfl | h
      · exact .inl (List.mem_cons_self ..)
      · rcases aput_mem h with h | h
        · exact .inl (List.mem_cons_of_mem _ h)
        · exact .inr h
theorem occRow_all {P : Int → Prop} {i : Int} (hi : P i) : ∀ {c : List Int} {m : List (Int × List Int)}, (∀ p ∈ m, ∀ j ∈ p.2, P j) → ∀ p ∈ occRow i m c, ∀ j ∈ p.2, P j
  | [], m, h => h
  | n :: c, m, h => by
    unfold occRow
    refine occRow_all hi (fun p hp j hj => ?_)
    rcases aput_mem hp with hp | hp
    · exact h p hp j hj
    · rw [hp] at hj
      rcases List.mem_append.1 hj with hj | hj
      · exact occOf_mem h j hj
      · rw [List.mem_singleton.1 hj]; exact hi
theorem occRow_len {i : Int} : ∀ {c : List Int} {m : List (Int × List Int)} {k : Nat}, (∀ p ∈ m, p.2.length ≤ k) → ∀ p ∈ occRow i m c, p.2.length ≤ k + c.length
  | [], m, k, h => h
  | n :: c, m, k, h => by
    unfold occRow
    have := occRow_len (i := i) (c := c) (m := aput m n (occOf m n ++ [i])) (k := k + 1) (fun p hp => by
      rcases aput_mem hp with hp | hp
      · have := h p hp; omega
      · rw [hp, List.length_append]
        have := occOf_len (n := n) h
        simp; omega)
    intro p hp
    have := this p hp
    simp only [List.length_cons]; omega
theorem occAll_all {N : Nat} : ∀ {l : List (List Int)} {i : Nat} {m : List (Int × List Int)}, i + l.length ≤ N → (∀ p ∈ m, ∀ j ∈ p.2, 0 ≤ j ∧ j < (N : Int)) → ∀ p ∈ occAll i m l, ∀ j ∈ p.2, 0 ≤ j ∧ j < (N : Int)
  | [], i, m, _, h => h
  | c :: l, i, m, hl, h => by
    simp only [List.length_cons] at hl
    unfold occAll
    exact occAll_all (by omega) (occRow_all (P := fun j => 0 ≤ j ∧ j < (N : Int)) ⟨by omega, by omega⟩ h)
theorem occAll_len {q : Nat} : ∀ {l : List (List Int)} {i : Nat} {m : List (Int × List Int)} {k : Nat}, (∀ c ∈ l, c.length ≤ q) → (∀ p ∈ m, p.2.length ≤ k) → ∀ p ∈ occAll i m l, p.2.length ≤ k + l.length * q
  | [], i, m, k, _, h => by intro p hp; have := h p hp; simp; omega
  | c :: l, i, m, k, hq, h => by
    unfold occAll
    intro p hp
    have h1 := occAll_len (l := l) (i := i + 1) (m := occRow (i : Int) m c) (k := k + q) (fun c' hc => hq c' (List.mem_cons_of_mem _ hc)) (fun p hp => by
      have := occRow_len (i := (i : Int)) (c := c) h p hp
      have := hq c (List.mem_cons_self ..)
      omega) p hp
    rw [List.length_cons, Nat.succ_mul]
    omega
theorem newSv_ok {vars fuel : Int} {cl : List (List Int)} (hv : 0 ≤ vars ∧ vars ≤ 1000) (hcl : cl.length ≤ 100000) (hll : ∀ c ∈ cl, c.length ≤ 100000) (hl : ∀ c ∈ cl, ∀ n ∈ c, n ≠ 0 ∧ -vars ≤ n ∧ n ≤ vars) : (newSv vars cl fuel).Ok := by
  refine ⟨hv.1, hv.2, ?_, ?_, hl, hcl, hll, rfl, Nat.zero_le _, Int.le_refl _, Int.le_refl _, ?_, ?_, ?_, ?_, ?_⟩
  · show ((List.replicate (vars + 1).toNat (0 : Int)).length : Int) = vars + 1
    rw [List.length_replicate]; omega
  · intro x hx
    exact .inr (.inl (List.eq_of_mem_replicate hx))
  · intro n hn; cases hn
  · exact occAll_all (N := cl.length) (by omega) (fun p hp => by cases hp)
  · intro p hp
    have := occAll_len (q := 100000) (i := 0) (m := []) (k := 0) hll (fun p hp => by cases hp) p hp
    have : cl.length * 100000 ≤ 100000 * 100000 := Nat.mul_le_mul_right _ hcl
    omega
  · intro i hi
    show (List.replicate (vars + 1).toNat (0 : Int)).getD i 0 = tv [] i
    rw [List.getD_eq_getElem?_getD, List.getElem?_replicate]
    split <;> rfl
  · exact List.nodup_nil
end Go.Proofs.Ytapbkoolddnjgaa.PA
