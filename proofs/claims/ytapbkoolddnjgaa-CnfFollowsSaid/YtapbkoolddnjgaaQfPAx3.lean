/- What the claim needs of PAx3: lemmas and contracts, cut by a program to what is used. -/
import Derived.Test.YtapbkoolddnjgaaQfPAx0
import Derived.Test.YtapbkoolddnjgaaQfPAx2
namespace Go.Proofs.Ytapbkoolddnjgaa.PA
open Go.RowKit Go.Proofs.YtapbkoolddnjgaaW.PrintWords Go.Proofs.YtapbkoolddnjgaaW.PrintLast Go.Proofs.YtapbkoolddnjgaaW.PrintMore Go.Proofs.Sl
attribute [local go_sem] max2_int min2_int max_two min_two max_three min_three max_four min_four
set_option linter.unusedVariables false
set_option linter.unusedSimpArgs false
structure Sv where
  vars : Int
  cl : List (List Int)
  occ : List (Int × List Int)
  vals : List Int
  trail : List Int
  reasons : List Int
  done : Int
  fuel : Int
  steps : Int
  failed : Bool
def gP (B b : Nat) (m : List (Int × List Int)) : Asn :=
  exA fun ps : List (Int × List Int × Value) => sepA (pureA (ps.map (fun p => (p.1, p.2.1)) = m) :: mapP b (ps.map fun p => (p.1, p.2.2)) :: ps.map fun p => row B (Kd.int .i64) 3 p.2.2 p.2.1)
def fzA (wS : World) (F0 : Nat → Prop) : Asn where
  H F w := (∀ b, F b ↔ F0 b) ∧ ∀ b, F0 b → w.heap[b]? = wS.heap[b]? ∧ b < wS.heap.size
  move hm h := ⟨h.1, fun b hb => ⟨(hm b ((h.1 b).2 hb)).trans (h.2 b hb).1, (h.2 b hb).2⟩⟩
  lt h hb := by
    have h1 := h.2 _ ((h.1 _).1 hb)
    exact lt_move h1.1 h1.2
structure Fx where
  w0 : World
  wS : World
  F0 : Nat → Prop
  b : Nat
  Ac : Option Addr
  cc : Nat
structure Fx.At (fx : Fx) (w : World) : Prop where
  same : ∀ b, fx.F0 b → w.heap[b]? = fx.wS.heap[b]?
  below : Below fx.w0.heap.size fx.w0 w
def occOf (m : List (Int × List Int)) (n : Int) : List Int := (alook m n).getD []
structure Fx.Ok (fx : Fx) (cl : List (List Int)) (occ : List (Int × List Int)) : Prop where
  cap : cl.length ≤ fx.cc
  row : ∀ i : Int, 0 ≤ i → i < cl.length → ∃ ad A c, fx.Ac = some ad ∧ (rdL cl i).length ≤ c ∧ ∀ w, fx.At w → w.cell? (ad.add i.toNat) = some (.slice A (rdL cl i).length c) ∧ Kd.C (Kd.int .i64) w A (rdL cl i).length (rdL cl i)
  map : ∃ es clock fs, KeysInt es fs ∧ (∀ w, fx.At w → w.heap[fx.b]? = some (.map es clock)) ∧ ∀ n, ∃ A c, (alook fs n).getD (.slice none 0 0) = .slice A (occOf occ n).length c ∧ (occOf occ n).length ≤ c ∧ ∀ w, fx.At w → Kd.C (Kd.int .i64) w A (occOf occ n).length (occOf occ n)
def SvL (fx : Fx) (g : Nat) (vV tV rV : Value) (s : Sv) : List Asn :=
  [box g 82 #[.int .i64 s.vars, .slice fx.Ac s.cl.length fx.cc, .map (some fx.b), vV, tV, rV, .int .i64 s.done, .int .i64 s.fuel, .int .i64 s.steps, .slice none 0 0, .bool false, .bool s.failed],
   fzA fx.wS fx.F0, row fx.w0.heap.size (Kd.int .i8) 96 vV s.vals, row fx.w0.heap.size (Kd.int .i64) 3 tV s.trail, row fx.w0.heap.size (Kd.int .i64) 3 rV s.reasons]
def IsSv (fx : Fx) (w : World) (g : Nat) (s : Sv) (R : List Asn) : Prop := ∃ vV tV rV, St fx.w0 w (SvL fx g vV tV rV s ++ R)
theorem fx_at {fx : Fx} {w : World} {L : List Asn} (h : St fx.w0 w L) {i : Nat} (hi : L[i]? = some (fzA fx.wS fx.F0)) : fx.At w := by
  obtain ⟨F, hF, _⟩ := h.holds hi
  exact ⟨fun b hb => (hF.2 b hb).1, h.below⟩
def setLit (vals : List Int) (lit : Int) : List Int := vals.set lit.natAbs (if lit < 0 then -1 else 1)
def Sv.assume (s : Sv) (lit reason : Int) : Sv := { s with vals := setLit s.vals lit, trail := s.trail ++ [lit], reasons := s.reasons ++ [reason] }
def Sv.knows (s : Sv) (lit : Int) : Prop := lit ≠ 0 ∧ -1000 ≤ lit ∧ lit ≤ 1000 ∧ lit.natAbs < s.vals.length
theorem alook_split {β : Type} : ∀ (a c : List (Int × β)) (n : Int) (x : β), (∀ q ∈ a, q.1 ≠ n) → alook (a ++ (n, x) :: c) n = some x
  | [], c, n, x, _ => by simp [alook]
  | (k, v) :: a, c, n, x, h => by
    have hk : k ≠ n := h _ (List.mem_cons_self ..)
    show alook ((k, v) :: (a ++ (n, x) :: c)) n = _
    unfold alook
    rw [if_neg hk]
    exact alook_split a c n x (fun q hq => h q (List.mem_cons_of_mem _ hq))
theorem aput_split {β : Type} : ∀ (a c : List (Int × β)) (n : Int) (x y : β), (∀ q ∈ a, q.1 ≠ n) → aput (a ++ (n, x) :: c) n y = a ++ (n, y) :: c
  | [], c, n, x, y, _ => by simp [aput]
  | (k, v) :: a, c, n, x, y, h => by
    have hk : k ≠ n := h _ (List.mem_cons_self ..)
    show aput ((k, v) :: (a ++ (n, x) :: c)) n y = _
    unfold aput
    rw [if_neg hk, aput_split a c n x y (fun q hq => h q (List.mem_cons_of_mem _ hq))]
    rfl
theorem alook_miss {β : Type} : ∀ (a : List (Int × β)) (n : Int), (∀ q ∈ a, q.1 ≠ n) → alook a n = none
  | [], n, _ => rfl
  | (k, v) :: a, n, h => by
    unfold alook
    rw [if_neg (h _ (List.mem_cons_self ..))]
    exact alook_miss a n (fun q hq => h q (List.mem_cons_of_mem _ hq))
theorem aput_miss {β : Type} : ∀ (a : List (Int × β)) (n : Int) (y : β), (∀ q ∈ a, q.1 ≠ n) → aput a n y = a ++ [(n, y)]
  | [], n, y, _ => rfl
  | (k, v) :: a, n, y, h => by
    unfold aput
    rw [if_neg (h _ (List.mem_cons_self ..)), aput_miss a n y (fun q hq => h q (List.mem_cons_of_mem _ hq))]
    rfl
theorem key_split {γ : Type} (n : Int) : ∀ (ps : List (Int × γ)), (∀ q ∈ ps, q.1 ≠ n) ∨ ∃ a x c, ps = a ++ (n, x) :: c ∧ ∀ q ∈ a, q.1 ≠ n
  | [] => .inl (fun _ h => by cases h)
  | (k, x) :: ps => by
    by_cases hk : k = n
    · subst hk
      exact .inr ⟨[], x, ps, rfl, fun _ h => by cases h⟩
    · rcases key_split n ps with h | ⟨a, y, c, rfl, h⟩
      · refine .inl (fun q hq => ?_)
        rcases List.mem_cons.1 hq with rfl | hq
        · exact hk
        · exact h q hq
      · refine .inr ⟨(k, x) :: a, y, c, rfl, fun q hq => ?_⟩
        rcases List.mem_cons.1 hq with rfl | hq
        · exact hk
        · exact h q hq
def prow (B : Nat) (p : Int × List Int × Value) : Asn := row B (Kd.int .i64) 3 p.2.2 p.2.1
theorem gP_open {w0 w : World} {L : List Asn} {b : Nat} {m : List (Int × List Int)} (h : St w0 w (gP w0.heap.size b m :: L)) (n : Int) :
    ∃ v fs M, St w0 w (row w0.heap.size (Kd.int .i64) 3 v (occOf m n) :: mapP b fs :: (L ++ M)) ∧ (alook fs n).getD (.slice none 0 0) = v ∧
      ∀ v1 ys w', St w0 w' (row w0.heap.size (Kd.int .i64) 3 v1 ys :: mapP b (aput fs n v1) :: (L ++ M)) → St w0 w' (gP w0.heap.size b (aput m n ys) :: L) := by
  obtain ⟨ps, ha⟩ := h.open_ex
  have hb := ha.open_sep
  simp only [List.cons_append] at hb
  obtain ⟨hm, hc⟩ := hb.open_pure
  clear h ha hb
  subst hm
  rcases key_split n ps with hk | ⟨a, ⟨xs, v⟩, c, rfl, hk⟩
  · have e1 : ∀ q ∈ ps.map (fun p => (p.1, p.2.1)), q.1 ≠ n := by
      intro q hq; obtain ⟨p, hp, rfl⟩ := List.mem_map.1 hq; exact hk p hp
    have e2 : ∀ q ∈ ps.map (fun p => (p.1, p.2.2)), q.1 ≠ n := by
      intro q hq; obtain ⟨p, hp, rfl⟩ := List.mem_map.1 hq; exact hk p hp
    refine ⟨.slice none 0 0, ps.map (fun p => (p.1, p.2.2)), ps.map (prow w0.heap.size), ?_, ?_, ?_⟩
    · have ho : occOf (ps.map (fun p => (p.1, p.2.1))) n = [] := by unfold occOf; rw [alook_miss _ _ e1]; rfl
      rw [ho]
      refine (hc.row_nil (Kd.int .i64) 3).perm (.cons _ (.cons _ ?_))
      exact List.perm_append_comm
    · rw [alook_miss _ _ e2]; rfl
    · intro v1 ys w' hs
      rw [aput_miss _ _ _ e2] at hs
      rw [aput_miss _ _ _ e1]
      refine St.shut_ex (ps ++ [(n, ys, v1)]) (St.shut_sep (St.shut_pure (by simp) ?_))
      refine hs.perm ?_
      simp only [List.map_append, List.map_cons, List.map_nil]
      refine (List.Perm.swap _ _ _).trans (.cons _ ?_)
      refine (List.Perm.cons _ List.perm_append_comm).trans ?_
      show (prow w0.heap.size (n, ys, v1) :: (ps.map (prow w0.heap.size) ++ L)).Perm ((ps.map (prow w0.heap.size) ++ [prow w0.heap.size (n, ys, v1)]) ++ L)
      rw [List.append_assoc]
      exact List.perm_middle.symm
  · have e1 : ∀ q ∈ a.map (fun p => (p.1, p.2.1)), q.1 ≠ n := by
      intro q hq; obtain ⟨p, hp, rfl⟩ := List.mem_map.1 hq; exact hk p hp
    have e2 : ∀ q ∈ a.map (fun p => (p.1, p.2.2)), q.1 ≠ n := by
      intro q hq; obtain ⟨p, hp, rfl⟩ := List.mem_map.1 hq; exact hk p hp
    simp only [List.map_append, List.map_cons] at hc ⊢
    refine ⟨v, a.map (fun p => (p.1, p.2.2)) ++ (n, v) :: c.map (fun p => (p.1, p.2.2)), a.map (prow w0.heap.size) ++ c.map (prow w0.heap.size), ?_, ?_, ?_⟩
    · have ho : occOf (a.map (fun p => (p.1, p.2.1)) ++ (n, xs) :: c.map (fun p => (p.1, p.2.1))) n = xs := by unfold occOf; rw [alook_split _ _ _ _ e1]; rfl
      rw [ho]
      refine hc.perm ?_
      refine List.Perm.trans (.cons _ ?_) (List.Perm.swap _ _ _)
      show ((a.map (prow w0.heap.size) ++ prow w0.heap.size (n, xs, v) :: c.map (prow w0.heap.size)) ++ L).Perm (prow w0.heap.size (n, xs, v) :: (L ++ (a.map (prow w0.heap.size) ++ c.map (prow w0.heap.size))))
      refine (List.Perm.append_right L List.perm_middle).trans ?_
      exact List.Perm.cons _ List.perm_append_comm
    · rw [alook_split _ _ _ _ e2]; rfl
    · intro v1 ys w' hs
      rw [aput_split _ _ _ _ _ e2] at hs
      rw [aput_split _ _ _ _ _ e1]
      refine St.shut_ex (a ++ (n, ys, v1) :: c) (St.shut_sep (St.shut_pure (by simp) ?_))
      refine hs.perm ?_
      simp only [List.map_append, List.map_cons]
      refine (List.Perm.swap _ _ _).trans (.cons _ ?_)
      show (prow w0.heap.size (n, ys, v1) :: (L ++ (a.map (prow w0.heap.size) ++ c.map (prow w0.heap.size)))).Perm ((a.map (prow w0.heap.size) ++ prow w0.heap.size (n, ys, v1) :: c.map (prow w0.heap.size)) ++ L)
      refine (List.Perm.cons _ List.perm_append_comm).trans ?_
      exact (List.Perm.append_right L List.perm_middle).symm
theorem fx_close {w0 w : World} {L : List Asn} {b : Nat} {v : Value} {cl : List (List Int)} {m : List (Int × List Int)} (h : St w0 w (row w0.heap.size (MX w0) 25 v cl :: gP w0.heap.size b m :: L)) :
    ∃ fx : Fx, fx.w0 = w0 ∧ fx.b = b ∧ v = .slice fx.Ac cl.length fx.cc ∧ fx.Ok cl m ∧ St w0 w (fzA fx.wS fx.F0 :: L) := by
  obtain ⟨Ac, cc, hv, hcc, _⟩ := h.row_reads (i := 0) rfl
  have hbw := h.below
  have h1 : St w0 w (sepA [row w0.heap.size (MX w0) 25 v cl, gP w0.heap.size b m] :: L) := St.shut_sep (by simpa using h)
  obtain ⟨F1, hA, hlow, hput⟩ := h1.focus (i := 0) rfl
  have hA' : Sep [row w0.heap.size (MX w0) 25 v cl, gP w0.heap.size b m] F1 w := hA
  have hlt := hA'.lt
  refine ⟨⟨w0, w, F1, b, Ac, cc⟩, rfl, rfl, hv, ?_, ?_⟩
  · obtain ⟨Fr, Fg, he, hd, hrow, Fg', Fn, he2, hd2, hg, _⟩ := hA'
    refine ⟨hcc, fun i h0 hi => ?_, ?_⟩
    · have hpos : 0 < cl.length := by omega
      obtain ⟨g, c, hvg, _⟩ := Kd.R_form hrow.1 hpos
      have hFg : F1 g := (he g).2 (.inl (hrow.1.1 g (by rw [hvg]; simp [Value.ownBlock])))
      have hR := hrow.1
      rw [hvg] at hR
      obtain ⟨cs, hcl, hM, hcell, _⟩ := Kd.R_elem hR [] i h0 (by exact_mod_cast hi)
      obtain ⟨A, c', rfl, hle, hC⟩ := Kd.mix_read (e := 3) (d := Kd.int .i64) (dm := Kd.int .i64) rfl (fun _ _ h => h) hbw ((MX w0).K_of_M hM)
      have hc0 := hcell 0 _ rfl
      have hva : Ac = some ⟨g, 0, none⟩ := by rw [hv] at hvg; injection hvg
      refine ⟨⟨g, 0, none⟩, A, c', hva, hle, fun w2 hw2 => ?_⟩
      have hR2 : (MX w0).R 25 w2 w0.heap.size Fr (.slice (some ⟨g, 0, none⟩) cl.length c) cl := Kd.R_move hR (fun b hb => hw2.same b ((he b).2 (.inl hb)))
      obtain ⟨cs2, _, hM2, hcell2, _⟩ := Kd.R_elem hR2 [] i h0 (by exact_mod_cast hi)
      obtain ⟨A2, c2, rfl, hle2, hC2⟩ := Kd.mix_read (e := 3) (d := Kd.int .i64) (dm := Kd.int .i64) rfl (fun _ _ h => h) hw2.below ((MX w0).K_of_M hM2)
      have hc2 := hcell2 0 _ rfl
      have hsz : (MX w0).sz = 1 := rfl
      rw [hsz, Nat.mul_one, Nat.add_zero] at hc0 hc2
      have hcc : w2.cell? ⟨g, i.toNat, none⟩ = w.cell? ⟨g, i.toNat, none⟩ := by
        have hs : w2.heap[g]? = w.heap[g]? := hw2.same g hFg
        simp only [World.cell?, hs]
      rw [hc0, hc2] at hcc
      injection hcc with hcc
      injection hcc with hcA hcl hcc
      subst hcA; subst hcc
      have hrd : rdL cl i = cl.getD i.toNat [] := rfl
      rw [hrd]
      refine ⟨?_, hC2⟩
      rw [show (⟨g, 0, none⟩ : Addr).add i.toNat = ⟨g, i.toNat, none⟩ by rw [Addr.add_lit, Nat.zero_add]]
      exact hc2
    · obtain ⟨ps, hS⟩ := hg
      obtain ⟨Fp, Fq, ge, gd, hp, hS2⟩ := (hS : Sep (pureA (ps.map (fun p => (p.1, p.2.1)) = m) :: mapP b (ps.map fun p => (p.1, p.2.2)) :: ps.map fun p => row w0.heap.size (Kd.int .i64) 3 p.2.2 p.2.1) Fg' w)
      have hm := hp.2
      subst hm
      obtain ⟨Fm, Fs, me, md, hm, hS3⟩ := hS2
      have hFq : ∀ x, Fq x → F1 x := fun x hx => (he x).2 (.inr ((he2 x).2 (.inl ((ge x).2 (.inr hx)))))
      obtain ⟨hmb, es, clock, hes, hK⟩ := hm
      refine ⟨es, clock, ps.map fun p => (p.1, p.2.2), hK, fun w2 hw2 => (hw2.same b (hFq b ((me b).2 (.inl ((hmb b).2 rfl))))).trans hes, fun n => ?_⟩
      rcases key_split n ps with hk | ⟨a, ⟨xs, v⟩, c, rfl, hk⟩
      · have e1 : ∀ q ∈ ps.map (fun p => (p.1, p.2.1)), q.1 ≠ n := by
          intro q hq; obtain ⟨p, hp, rfl⟩ := List.mem_map.1 hq; exact hk p hp
        have e2 : ∀ q ∈ ps.map (fun p => (p.1, p.2.2)), q.1 ≠ n := by
          intro q hq; obtain ⟨p, hp, rfl⟩ := List.mem_map.1 hq; exact hk p hp
        have ho : occOf (ps.map (fun p => (p.1, p.2.1))) n = [] := by unfold occOf; rw [alook_miss _ _ e1]; rfl
        rw [ho, alook_miss _ _ e2]
        exact ⟨none, 0, rfl, Nat.le_refl _, fun w2 _ => Kd.C_nil _ _⟩
      · have e1 : ∀ q ∈ a.map (fun p => (p.1, p.2.1)), q.1 ≠ n := by
          intro q hq; obtain ⟨p, hp, rfl⟩ := List.mem_map.1 hq; exact hk p hp
        have e2 : ∀ q ∈ a.map (fun p => (p.1, p.2.2)), q.1 ≠ n := by
          intro q hq; obtain ⟨p, hp, rfl⟩ := List.mem_map.1 hq; exact hk p hp
        have ho : occOf ((a ++ (n, xs, v) :: c).map (fun p => (p.1, p.2.1))) n = xs := by
          rw [List.map_append, List.map_cons]; unfold occOf; rw [alook_split _ _ _ _ e1]; rfl
        have hq : alook ((a ++ (n, xs, v) :: c).map (fun p => (p.1, p.2.2))) n = some v := by
          rw [List.map_append, List.map_cons, alook_split _ _ _ _ e2]
        rw [ho, hq]
        obtain ⟨F3, F4, f1, f2, hrow3, _⟩ := Sep.focus (i := a.length) (A := row w0.heap.size (Kd.int .i64) 3 v xs) (by simp) hS3
        obtain ⟨A, c3, hv3, hl3, hC3⟩ := Kd.R_reads hrow3.1
        refine ⟨A, c3, hv3, hl3, fun w2 hw2 => ?_⟩
        have hR2 := Kd.R_move hrow3.1 (fun b hb => hw2.same b (hFq b ((me b).2 (.inr ((f1 b).2 (.inl hb))))))
        obtain ⟨A2, c4, hv4, _, hC4⟩ := Kd.R_reads hR2
        rw [hv3] at hv4
        injection hv4 with e _ _
        subst e
        exact hC4
  · have := hput w (fzA w F1) F1 rfl rfl rfl (Nat.le_refl _) ⟨fun _ => Iff.rfl, fun b hb => ⟨rfl, hlt b hb⟩⟩ (fun b hb => .inl hb) (fun _ _ _ => rfl)
    simpa using this
theorem _root_.Go.Proofs.Sl.st_append_int_step {P : Program} {ops : Array Oper} {o : Oper} {a : Act} {Q : Exit → Act → World → Prop} {Kc : Act → World → Prop} {w0 W : World} {L : List Asn} (H : St w0 W L) {i : Nat} {k : IntKind} {e : TypeId} {v : Value} {xs : List Int} (hi : L[i]? = some (row w0.heap.size (Kd.int k) e v xs)) (hw : Region.wanted o (yielded ops a.tmps) = true) (s x : Operand) (t : TypeId) (bytes : Nat) (y : Int)
    (ho : o.op = .call { callee := .builtin .append, args := #[s, x], argTypes := #[t, t] })
    (ht : P.underlying t = some (.slice e)) (hinfo : (P.info? e).map (fun i => (i.zero, i.size, i.bytes)) = some (some (.int k 0), 1, bytes)) (hb0 : 0 < bytes)
    (hs : a.eval s = v) (hx : a.eval x = .slice (some ⟨W.heap.size, 0, none⟩) 1 1) (hl : (xs.length + 1) * bytes ≤ 140737488355328)
    (h : ∀ v1 w1, St w0 w1 (L.set i (row w0.heap.size (Kd.int k) e v1 (xs ++ [y]))) → Kc (a.put o.dst v1) w1) :
    if Region.wanted o (yielded ops a.tmps) = true then Oper.wp P o a (W.alloc (.cells #[.int k y] e)) Kc Q else Kc (a.put o.dst undef) (W.alloc (.cells #[.int k y] e)) := by
  obtain ⟨F1, hA, _, hput⟩ := H.focus hi
  refine Kd.R_append_step (Kd.int k) (w0 := w0) (W := W) w0.heap.size hw s x t e (.int k 0) bytes ho ht hinfo rfl (Nat.zero_lt_one) hb0 v xs y [.int k y] (fun b => F1 b ∨ W.heap.size ≤ b) (fun _ => False) hs hx rfl (fun _ h => h.elim) (fun _ h => .inr h)
    (Kd.R_mono hA.1 (fun _ h => .inl h)) H.below H.below.size hl ?_
  intro v1 w1 h1 _ hg _
  exact h v1 w1 (St.row_put hA.1 hput h1 hg)
theorem perm3 {α : Type} {A B C : α} {L : List α} {M : List α} (h : L = [A, B, C] ∨ L = [A, C, B] ∨ L = [B, A, C] ∨ L = [B, C, A] ∨ L = [C, A, B] ∨ L = [C, B, A]) (hM : M = [A, B, C]) : L.Perm M := by
  subst hM
  rcases h with rfl | rfl | rfl | rfl | rfl | rfl
  · exact .refl _
  · exact .cons _ (.swap _ _ _)
  · exact .swap _ _ _
  · exact .trans (.cons _ (.swap _ _ _)) (.swap _ _ _)
  · exact .trans (.swap _ _ _) (.cons _ (.swap _ _ _))
  · exact .trans (.swap _ _ _) (.trans (.cons _ (.swap _ _ _)) (.swap _ _ _))
def occRow (i : Int) : List (Int × List Int) → List Int → List (Int × List Int)
  | m, [] => m
  | m, n :: c => occRow i (aput m n (occOf m n ++ [i])) c
def occAll : Nat → List (Int × List Int) → List (List Int) → List (Int × List Int)
  | _, m, [] => m
  | i, m, c :: l => occAll (i + 1) (occRow (i : Int) m c) l
theorem occ_nil (n : Int) (k : Nat) : (occOf [] n).length ≤ k := by
  have : (occOf [] n).length = 0 := rfl
  omega
def newSv (vars : Int) (cl : List (List Int)) (fuel : Int) : Sv := ⟨vars, cl, occAll 0 [] cl, List.replicate (vars + 1).toNat 0, [], [], 0, fuel, 0, false⟩
set_option maxHeartbeats 8000000 in
set_option maxRecDepth 100000 in
theorem newSolver51 (vars fuel : Int) (A : Option Addr) (c : Nat) (cl : List (List Int)) (w : World) (hread : Kd.C (Kd.slice 3 (Kd.int .i64)) w A cl.length cl) (hc : cl.length ≤ c) (hcl : cl.length ≤ 100000) (hll : ∀ c ∈ cl, c.length ≤ 100000) (hv : 0 ≤ vars ∧ vars ≤ 1000) :
    Calls Try.prog 51 #[.int .i64 vars, .slice A cl.length c, .int .i64 fuel] w fun e w' => ∃ g fx, e = .returned (.pointer (some ⟨g, 0, none⟩)) ∧ fx.w0 = w ∧ IsSv fx w' g (newSv vars cl fuel) [] ∧ fx.Ok cl (occAll 0 [] cl) := by
  have hu82 := Try.underlying82
  have hi96 : (Try.prog.info? 96).map (fun i => (i.zero, i.size, i.bytes)) = some (some (.int .i8 0), 1, 1) := by kernel_rfl
  have HR := Ak hread; have HLL := Ak hll
  have H := Ak (St.start w)
  clear hread hll
  obtain ⟨hv0, hv1⟩ := hv
  unfold newSv
  generalize hfin : occAll 0 [] cl = fin
  have HF := Ak hfin
  clear hfin
  have hwv : wrap64 (vars + 1) = vars + 1 := by unfold wrap64; omega
  go_enter Try.func51, Try.ntmps51
  go_wp2
  have n0_ := Ak H.out.drew
  clear H
  have H := n0_
  clear n0_
  refine start_ (n := 11) (S := fun w' => Below w.heap.size w w') (ds := []) #[false, false, false, false, false, false, false, false, false, false, false] (by kernel_rfl) rfl rfl (H.out.below) (fun hHeld => ?_)
  generalize World.drew _ = w_0 at H hHeld ⊢
  refine pure_ (i := 0) (N := some 12) (v := ?_) (a' := ?_) #[true, false, false, false, false, false, false, false, false, false, false] rfl rfl (by kernel_rfl) (fun _ _ _ h => h) (Or.inl ⟨by rfl, ?_⟩) ?_ ?_
  rotate_left
  · intro w'
    go_simp
    with_reducible rfl
  rotate_left
  · (try simp only [Act.put, La, Lb, Lc, i64_w, i32_w])
    rfl
  refine pure_ (i := 1) (N := some 13) (v := ?_) (a' := ?_) #[true, true, false, false, false, false, false, false, false, false, false] rfl rfl (by kernel_rfl) (fun _ _ _ h => h) (Or.inl ⟨by rfl, ?_⟩) ?_ ?_
  rotate_left
  · intro w'
    go_simp
    with_reducible rfl
  rotate_left
  · (try simp only [Act.put, La, Lb, Lc, i64_w, i32_w])
    rfl
  refine pure_ (i := 4) (N := some 16) (v := ?_) (a' := ?_) #[true, true, false, false, true, false, false, false, false, false, false] rfl rfl (by kernel_rfl) (fun _ _ _ h => h) (Or.inl ⟨by rfl, ?_⟩) ?_ ?_
  rotate_left
  · intro w'
    go_simp
    with_reducible rfl
  rotate_left
  · (try simp only [Act.put, La, Lb, Lc, i64_w, i32_w])
    rfl
  refine pure_ (i := 5) (N := some 17) (v := ?_) (a' := ?_) #[true, true, false, false, true, true, false, false, false, false, false] rfl rfl (by kernel_rfl) (fun _ _ _ h => h) (Or.inl ⟨by rfl, ?_⟩) ?_ ?_
  rotate_left
  · intro w'
    go_simp
    with_reducible rfl
  rotate_left
  · (try simp only [Act.put, La, Lb, Lc, i64_w, i32_w])
    rfl
  rw [hwv]
  refine pure_ (i := 7) (N := some 19) (v := ?_) (a' := ?_) #[true, true, false, false, true, true, false, true, false, false, false] rfl rfl (by kernel_rfl) (fun _ _ _ h => h) (Or.inl ⟨by rfl, ?_⟩) ?_ ?_
  rotate_left
  · intro w'
    go_simp
    with_reducible rfl
  rotate_left
  · (try simp only [Act.put, La, Lb, Lc, i64_w, i32_w])
    rfl
  refine join_ (σ := Value × Nat × Value) 3 #[true, true, true, true, true, true, true, true, false, false, false] (fun s => [(14, s.1), (15, .map (some s.2.1)), (18, s.2.2)]) (fun s w' => St w w' [row w.heap.size (MX w) 25 s.1 cl, mapP s.2.1 [], row w.heap.size (Kd.int .i8) 96 s.2.2 (List.replicate (vars + 1).toNat 0)]) ?_ ?_
  rotate_left
  · intro cont_
    refine three_ (i := 2) (j := 3) (k := 6) (Ni := some 14) (Nj := some 15) (Nk := some 18) #[true, true, true, false, true, true, false, true, false, false, false] #[true, true, false, true, true, true, false, true, false, false, false] #[true, true, false, false, true, true, true, true, false, false, false] rfl rfl rfl rfl rfl rfl (by kernel_rfl) (by decide) (by decide) (by decide) (fun K hK => ?_) (fun K hK => ?_) (fun K hK => ?_)
    · skip
      refine goes_ Try.func50 (by kernel_rfl) rfl ?args_2 (by rfl) rfl rfl ?hargs_2 ?main_2
      rotate_left 2
      with_reducible refine (clone50 A c cl w _ HR.out H.out.below hc hcl).mono ?_
      case hargs_2 => ((try simp only [List.map_toArray, List.map_cons, List.map_nil]); first | done | rfl)
      rintro e w_1 ⟨v14, rfl, hR, hb⟩
      refine ⟨_, rfl, ?_⟩
      have n0_ := Ak (H.out.row_new hb hR)
      clear H
      have H := n0_
      clear n0_
      clear hHeld
      (try clear hb)
      refine hK.out _ _ (H.out.below) (fun hHeld => ?_)
      clear hK K
      refine norm_ (a' := ?_) ?_ ?_
      rotate_left
      · show Act.put _ (some 14) _ = _
        (try simp only [Act.put, La, Lb, Lc, i64_w, i32_w])
        rfl
      refine two_ (i := 3) (j := 6) (Ni := some 15) (Nj := some 18) #[true, true, true, true, true, true, false, true, false, false, false] #[true, true, true, false, true, true, true, true, false, false, false] rfl rfl rfl rfl (by kernel_rfl) (by decide) (by decide) (fun K hK => ?_) (fun K hK => ?_)
      · skip
        refine value_ (v := .map (some w_1.heap.size)) (w1 := w_1.alloc (.map #[] 0)) (by rfl) rfl ?run_4 ?main_4
        · first | (go_simp; done) | (go_simp; rfl)
        have n0_ := Ak (H.out.map_new)
        clear H
        have H := n0_
        clear n0_
        clear hHeld
        (try clear hb)
        refine hK.out _ _ (H.out.below) (fun hHeld => ?_)
        clear hK K
        refine norm_ (a' := ?_) ?_ ?_
        rotate_left
        · show Act.put _ (some 15) _ = _
          (try simp only [Act.put, La, Lb, Lc, i64_w, i32_w])
          rfl
        generalize (w_1.alloc (.map #[] 0)) = w_3 at H hHeld ⊢
        generalize w_1.heap.size = b15 at H ⊢
        refine one_ (i := 6) (N := some 18) #[true, true, true, true, true, true, true, true, false, false, false] rfl rfl (by kernel_rfl) (by decide) (fun K hK => ?_)
        refine Kd.R_make_step (Kd.int .i8) (w0 := w_3) (W := w_3) w_3.heap.size 96 (by rfl) (N := 18) rfl 80 (.tmp 17) (.tmp 17) rfl (vars + 1) rfl rfl Try.underlying80 (.int .i8 0) 1 hi96 rfl Nat.zero_lt_one Nat.zero_lt_one 0 (ok := fun _ => True) (okp := fun _ => False) rfl (fun _ h => h.elim) trivial (by omega) (by omega) (Below.refl _ _) (Nat.le_refl _) ?_
        intro v18 w_5 hR hb _ _
        have n0_ := Ak (H.out.row_new hb hR)
        clear H
        have H := n0_
        clear n0_
        clear hHeld
        (try clear hb)
        refine hK.out _ _ (H.out.below) (fun hHeld => ?_)
        clear hK K
        refine norm_ (a' := ?_) ?_ ?_
        rotate_left
        · show Act.put _ (some 18) _ = _
          (try simp only [Act.put, La, Lb, Lc, i64_w, i32_w])
          rfl
        exact norm_ (by first | (simp only [putAll, Act.put, La, Lb, Lc]; done) | (simp only [putAll, Act.put, La, Lb, Lc]; rfl)) (cont_ ((v14, b15, v18)) _ (H.out.perm (perm3 (by simp) rfl)))
      · skip
        refine Kd.R_make_step (Kd.int .i8) (w0 := w_1) (W := w_1) w_1.heap.size 96 (by rfl) (N := 18) rfl 80 (.tmp 17) (.tmp 17) rfl (vars + 1) rfl rfl Try.underlying80 (.int .i8 0) 1 hi96 rfl Nat.zero_lt_one Nat.zero_lt_one 0 (ok := fun _ => True) (okp := fun _ => False) rfl (fun _ h => h.elim) trivial (by omega) (by omega) (Below.refl _ _) (Nat.le_refl _) ?_
        intro v18 w_7 hR hb _ _
        have n0_ := Ak (H.out.row_new hb hR)
        clear H
        have H := n0_
        clear n0_
        clear hHeld
        (try clear hb)
        refine hK.out _ _ (H.out.below) (fun hHeld => ?_)
        clear hK K
        refine norm_ (a' := ?_) ?_ ?_
        rotate_left
        · show Act.put _ (some 18) _ = _
          (try simp only [Act.put, La, Lb, Lc, i64_w, i32_w])
          rfl
        refine one_ (i := 3) (N := some 15) #[true, true, true, true, true, true, true, true, false, false, false] rfl rfl (by kernel_rfl) (by decide) (fun K hK => ?_)
        refine value_ (v := .map (some w_7.heap.size)) (w1 := w_7.alloc (.map #[] 0)) (by rfl) rfl ?run_10 ?main_10
        · first | (go_simp; done) | (go_simp; rfl)
        have n0_ := Ak (H.out.map_new)
        clear H
        have H := n0_
        clear n0_
        clear hHeld
        (try clear hb)
        refine hK.out _ _ (H.out.below) (fun hHeld => ?_)
        clear hK K
        refine norm_ (a' := ?_) ?_ ?_
        rotate_left
        · show Act.put _ (some 15) _ = _
          (try simp only [Act.put, La, Lb, Lc, i64_w, i32_w])
          rfl
        generalize (w_7.alloc (.map #[] 0)) = w_9 at H hHeld ⊢
        generalize w_7.heap.size = b15 at H ⊢
        exact norm_ (by first | (simp only [putAll, Act.put, La, Lb, Lc]; done) | (simp only [putAll, Act.put, La, Lb, Lc]; rfl)) (cont_ ((v14, b15, v18)) _ (H.out.perm (perm3 (by simp) rfl)))
    · skip
      refine value_ (v := .map (some w_0.heap.size)) (w1 := w_0.alloc (.map #[] 0)) (by rfl) rfl ?run_12 ?main_12
      · first | (go_simp; done) | (go_simp; rfl)
      have n0_ := Ak (H.out.map_new)
      clear H
      have H := n0_
      clear n0_
      clear hHeld
      (try clear hb)
      refine hK.out _ _ (H.out.below) (fun hHeld => ?_)
      clear hK K
      refine norm_ (a' := ?_) ?_ ?_
      rotate_left
      · show Act.put _ (some 15) _ = _
        (try simp only [Act.put, La, Lb, Lc, i64_w, i32_w])
        rfl
      generalize (w_0.alloc (.map #[] 0)) = w_11 at H hHeld ⊢
      generalize w_0.heap.size = b15 at H ⊢
      refine two_ (i := 2) (j := 6) (Ni := some 14) (Nj := some 18) #[true, true, true, true, true, true, false, true, false, false, false] #[true, true, false, true, true, true, true, true, false, false, false] rfl rfl rfl rfl (by kernel_rfl) (by decide) (by decide) (fun K hK => ?_) (fun K hK => ?_)
      · skip
        refine goes_ Try.func50 (by kernel_rfl) rfl ?args_14 (by rfl) rfl rfl ?hargs_14 ?main_14
        rotate_left 2
        with_reducible refine (clone50 A c cl w _ HR.out H.out.below hc hcl).mono ?_
        case hargs_14 => ((try simp only [List.map_toArray, List.map_cons, List.map_nil]); first | done | rfl)
        rintro e w_13 ⟨v14, rfl, hR, hb⟩
        refine ⟨_, rfl, ?_⟩
        have n0_ := Ak (H.out.row_new hb hR)
        clear H
        have H := n0_
        clear n0_
        clear hHeld
        (try clear hb)
        refine hK.out _ _ (H.out.below) (fun hHeld => ?_)
        clear hK K
        refine norm_ (a' := ?_) ?_ ?_
        rotate_left
        · show Act.put _ (some 14) _ = _
          (try simp only [Act.put, La, Lb, Lc, i64_w, i32_w])
          rfl
        refine one_ (i := 6) (N := some 18) #[true, true, true, true, true, true, true, true, false, false, false] rfl rfl (by kernel_rfl) (by decide) (fun K hK => ?_)
        refine Kd.R_make_step (Kd.int .i8) (w0 := w_13) (W := w_13) w_13.heap.size 96 (by rfl) (N := 18) rfl 80 (.tmp 17) (.tmp 17) rfl (vars + 1) rfl rfl Try.underlying80 (.int .i8 0) 1 hi96 rfl Nat.zero_lt_one Nat.zero_lt_one 0 (ok := fun _ => True) (okp := fun _ => False) rfl (fun _ h => h.elim) trivial (by omega) (by omega) (Below.refl _ _) (Nat.le_refl _) ?_
        intro v18 w_15 hR hb _ _
        have n0_ := Ak (H.out.row_new hb hR)
        clear H
        have H := n0_
        clear n0_
        clear hHeld
        (try clear hb)
        refine hK.out _ _ (H.out.below) (fun hHeld => ?_)
        clear hK K
        refine norm_ (a' := ?_) ?_ ?_
        rotate_left
        · show Act.put _ (some 18) _ = _
          (try simp only [Act.put, La, Lb, Lc, i64_w, i32_w])
          rfl
        exact norm_ (by first | (simp only [putAll, Act.put, La, Lb, Lc]; done) | (simp only [putAll, Act.put, La, Lb, Lc]; rfl)) (cont_ ((v14, b15, v18)) _ (H.out.perm (perm3 (by simp) rfl)))
      · skip
        refine Kd.R_make_step (Kd.int .i8) (w0 := w_11) (W := w_11) w_11.heap.size 96 (by rfl) (N := 18) rfl 80 (.tmp 17) (.tmp 17) rfl (vars + 1) rfl rfl Try.underlying80 (.int .i8 0) 1 hi96 rfl Nat.zero_lt_one Nat.zero_lt_one 0 (ok := fun _ => True) (okp := fun _ => False) rfl (fun _ h => h.elim) trivial (by omega) (by omega) (Below.refl _ _) (Nat.le_refl _) ?_
        intro v18 w_17 hR hb _ _
        have n0_ := Ak (H.out.row_new hb hR)
        clear H
        have H := n0_
        clear n0_
        clear hHeld
        (try clear hb)
        refine hK.out _ _ (H.out.below) (fun hHeld => ?_)
        clear hK K
        refine norm_ (a' := ?_) ?_ ?_
        rotate_left
        · show Act.put _ (some 18) _ = _
          (try simp only [Act.put, La, Lb, Lc, i64_w, i32_w])
          rfl
        refine one_ (i := 2) (N := some 14) #[true, true, true, true, true, true, true, true, false, false, false] rfl rfl (by kernel_rfl) (by decide) (fun K hK => ?_)
        refine goes_ Try.func50 (by kernel_rfl) rfl ?args_20 (by rfl) rfl rfl ?hargs_20 ?main_20
        rotate_left 2
        with_reducible refine (clone50 A c cl w _ HR.out H.out.below hc hcl).mono ?_
        case hargs_20 => ((try simp only [List.map_toArray, List.map_cons, List.map_nil]); first | done | rfl)
        rintro e w_19 ⟨v14, rfl, hR, hb⟩
        refine ⟨_, rfl, ?_⟩
        have n0_ := Ak (H.out.row_new hb hR)
        clear H
        have H := n0_
        clear n0_
        clear hHeld
        (try clear hb)
        refine hK.out _ _ (H.out.below) (fun hHeld => ?_)
        clear hK K
        refine norm_ (a' := ?_) ?_ ?_
        rotate_left
        · show Act.put _ (some 14) _ = _
          (try simp only [Act.put, La, Lb, Lc, i64_w, i32_w])
          rfl
        exact norm_ (by first | (simp only [putAll, Act.put, La, Lb, Lc]; done) | (simp only [putAll, Act.put, La, Lb, Lc]; rfl)) (cont_ ((v14, b15, v18)) _ (H.out.perm (perm3 (by simp) rfl)))
    · skip
      refine Kd.R_make_step (Kd.int .i8) (w0 := w_0) (W := w_0) w_0.heap.size 96 (by rfl) (N := 18) rfl 80 (.tmp 17) (.tmp 17) rfl (vars + 1) rfl rfl Try.underlying80 (.int .i8 0) 1 hi96 rfl Nat.zero_lt_one Nat.zero_lt_one 0 (ok := fun _ => True) (okp := fun _ => False) rfl (fun _ h => h.elim) trivial (by omega) (by omega) (Below.refl _ _) (Nat.le_refl _) ?_
      intro v18 w_21 hR hb _ _
      have n0_ := Ak (H.out.row_new hb hR)
      clear H
      have H := n0_
      clear n0_
      clear hHeld
      (try clear hb)
      refine hK.out _ _ (H.out.below) (fun hHeld => ?_)
      clear hK K
      refine norm_ (a' := ?_) ?_ ?_
      rotate_left
      · show Act.put _ (some 18) _ = _
        (try simp only [Act.put, La, Lb, Lc, i64_w, i32_w])
        rfl
      refine two_ (i := 2) (j := 3) (Ni := some 14) (Nj := some 15) #[true, true, true, false, true, true, true, true, false, false, false] #[true, true, false, true, true, true, true, true, false, false, false] rfl rfl rfl rfl (by kernel_rfl) (by decide) (by decide) (fun K hK => ?_) (fun K hK => ?_)
      · skip
        refine goes_ Try.func50 (by kernel_rfl) rfl ?args_24 (by rfl) rfl rfl ?hargs_24 ?main_24
        rotate_left 2
        with_reducible refine (clone50 A c cl w _ HR.out H.out.below hc hcl).mono ?_
        case hargs_24 => ((try simp only [List.map_toArray, List.map_cons, List.map_nil]); first | done | rfl)
        rintro e w_23 ⟨v14, rfl, hR, hb⟩
        refine ⟨_, rfl, ?_⟩
        have n0_ := Ak (H.out.row_new hb hR)
        clear H
        have H := n0_
        clear n0_
        clear hHeld
        (try clear hb)
        refine hK.out _ _ (H.out.below) (fun hHeld => ?_)
        clear hK K
        refine norm_ (a' := ?_) ?_ ?_
        rotate_left
        · show Act.put _ (some 14) _ = _
          (try simp only [Act.put, La, Lb, Lc, i64_w, i32_w])
          rfl
        refine one_ (i := 3) (N := some 15) #[true, true, true, true, true, true, true, true, false, false, false] rfl rfl (by kernel_rfl) (by decide) (fun K hK => ?_)
        refine value_ (v := .map (some w_23.heap.size)) (w1 := w_23.alloc (.map #[] 0)) (by rfl) rfl ?run_26 ?main_26
        · first | (go_simp; done) | (go_simp; rfl)
        have n0_ := Ak (H.out.map_new)
        clear H
        have H := n0_
        clear n0_
        clear hHeld
        (try clear hb)
        refine hK.out _ _ (H.out.below) (fun hHeld => ?_)
        clear hK K
        refine norm_ (a' := ?_) ?_ ?_
        rotate_left
        · show Act.put _ (some 15) _ = _
          (try simp only [Act.put, La, Lb, Lc, i64_w, i32_w])
          rfl
        generalize (w_23.alloc (.map #[] 0)) = w_25 at H hHeld ⊢
        generalize w_23.heap.size = b15 at H ⊢
        exact norm_ (by first | (simp only [putAll, Act.put, La, Lb, Lc]; done) | (simp only [putAll, Act.put, La, Lb, Lc]; rfl)) (cont_ ((v14, b15, v18)) _ (H.out.perm (perm3 (by simp) rfl)))
      · skip
        refine value_ (v := .map (some w_21.heap.size)) (w1 := w_21.alloc (.map #[] 0)) (by rfl) rfl ?run_28 ?main_28
        · first | (go_simp; done) | (go_simp; rfl)
        have n0_ := Ak (H.out.map_new)
        clear H
        have H := n0_
        clear n0_
        clear hHeld
        (try clear hb)
        refine hK.out _ _ (H.out.below) (fun hHeld => ?_)
        clear hK K
        refine norm_ (a' := ?_) ?_ ?_
        rotate_left
        · show Act.put _ (some 15) _ = _
          (try simp only [Act.put, La, Lb, Lc, i64_w, i32_w])
          rfl
        generalize (w_21.alloc (.map #[] 0)) = w_27 at H hHeld ⊢
        generalize w_21.heap.size = b15 at H ⊢
        refine one_ (i := 2) (N := some 14) #[true, true, true, true, true, true, true, true, false, false, false] rfl rfl (by kernel_rfl) (by decide) (fun K hK => ?_)
        refine goes_ Try.func50 (by kernel_rfl) rfl ?args_30 (by rfl) rfl rfl ?hargs_30 ?main_30
        rotate_left 2
        with_reducible refine (clone50 A c cl w _ HR.out H.out.below hc hcl).mono ?_
        case hargs_30 => ((try simp only [List.map_toArray, List.map_cons, List.map_nil]); first | done | rfl)
        rintro e w_29 ⟨v14, rfl, hR, hb⟩
        refine ⟨_, rfl, ?_⟩
        have n0_ := Ak (H.out.row_new hb hR)
        clear H
        have H := n0_
        clear n0_
        clear hHeld
        (try clear hb)
        refine hK.out _ _ (H.out.below) (fun hHeld => ?_)
        clear hK K
        refine norm_ (a' := ?_) ?_ ?_
        rotate_left
        · show Act.put _ (some 14) _ = _
          (try simp only [Act.put, La, Lb, Lc, i64_w, i32_w])
          rfl
        exact norm_ (by first | (simp only [putAll, Act.put, La, Lb, Lc]; done) | (simp only [putAll, Act.put, La, Lb, Lc]; rfl)) (cont_ ((v14, b15, v18)) _ (H.out.perm (perm3 (by simp) rfl)))
  rintro ⟨v14, b15, v18⟩ w_31 hF
  have n0_ := Ak (hF)
  (try clear H)
  have H := n0_
  clear n0_
  clear hHeld
  have hHeld := (H.out.below)
  change (fun w' => Below w.heap.size w w') _ at hHeld
  (try dsimp only at H)
  obtain ⟨A14, c14, rfl, hc14, _⟩ := H.out.row_reads (i := 0) rfl
  obtain ⟨A18, c18, rfl, hc18, _⟩ := H.out.row_reads (i := 2) rfl
  refine norm_ (a' := ?_) ?_ ?_
  rotate_left
  · simp only [putAll, Act.put, La, Lb, Lc]
    rfl
  refine pure_ (i := 8) (N := some 20) (v := ?_) (a' := ?_) #[true, true, true, true, true, true, true, true, true, false, false] rfl rfl (by kernel_rfl) (fun _ _ _ h => h) (Or.inl ⟨by rfl, ?_⟩) ?_ ?_
  rotate_left
  · intro w'
    go_simp
    with_reducible rfl
  rotate_left
  · (try simp only [Act.put, La, Lb, Lc, i64_w, i32_w])
    rfl
  refine one_ (i := 9) (N := some 21) #[true, true, true, true, true, true, true, true, true, true, false] rfl rfl (by kernel_rfl) (by decide) (fun K hK => ?_)
  refine value_ (v := .pointer (some ⟨w_31.heap.size, 0, none⟩)) (w1 := w_31.alloc (.cells #[.int .i64 vars, .slice A14 cl.length c14, .map (some b15), .slice A18 (List.replicate (vars + 1).toNat (0 : Int)).length c18, .slice none 0 0, .slice none 0 0, .int .i64 0, .int .i64 fuel, .int .i64 0, .slice none 0 0, .bool false, .bool false] 82)) (by rfl) rfl ?run_33 ?main_33
  · first | (go_simp; done) | (go_simp; rfl)
  have n0_ := Ak (H.out.box_new 82 #[.int .i64 vars, .slice A14 cl.length c14, .map (some b15), .slice A18 (List.replicate (vars + 1).toNat (0 : Int)).length c18, .slice none 0 0, .slice none 0 0, .int .i64 0, .int .i64 fuel, .int .i64 0, .slice none 0 0, .bool false, .bool false])
  clear H
  have H := n0_
  clear n0_
  clear hHeld
  (try clear hb)
  refine hK.out _ _ (H.out.below) (fun hHeld => ?_)
  clear hK K
  refine norm_ (a' := ?_) ?_ ?_
  rotate_left
  · show Act.put _ (some 21) _ = _
    (try simp only [Act.put, La, Lb, Lc, i64_w, i32_w])
    rfl
  generalize (w_31.alloc (.cells #[.int .i64 vars, .slice A14 cl.length c14, .map (some b15), .slice A18 (List.replicate (vars + 1).toNat (0 : Int)).length c18, .slice none 0 0, .slice none 0 0, .int .i64 0, .int .i64 fuel, .int .i64 0, .slice none 0 0, .bool false, .bool false] 82)) = w_32 at H hHeld ⊢
  refine pure_ (i := 10) (N := some 7) (v := ?_) (a' := ?_) #[true, true, true, true, true, true, true, true, true, true, true] rfl rfl (by kernel_rfl) (fun _ _ _ h => h) (Or.inl ⟨by rfl, ?_⟩) ?_ ?_
  rotate_left
  · intro w'
    go_simp
    with_reducible rfl
  rotate_left
  · (try simp only [Act.put, La, Lb, Lc, i64_w, i32_w])
    rfl
  refine done_ (by kernel_rfl) ?_
  generalize w_31.heap.size = g at H ⊢
  generalize (Value.slice A18 (List.replicate (vars + 1).toNat (0 : Int)).length c18) = v18 at H ⊢
  have hm0 : St w w_32 (gP w.heap.size b15 [] :: [box g 82 #[.int .i64 vars, .slice A14 cl.length c14, .map (some b15), v18, .slice none 0 0, .slice none 0 0, .int .i64 0, .int .i64 fuel, .int .i64 0, .slice none 0 0, .bool false, .bool false], row w.heap.size (MX w) 25 (.slice A14 cl.length c14) cl, row w.heap.size (Kd.int .i8) 96 v18 (List.replicate (vars + 1).toNat 0)]) := by
    refine St.shut_ex [] (St.shut_sep (St.shut_pure rfl ?_))
    refine H.out.perm ?_
    show (_ :: _ :: mapP b15 [] :: _).Perm (mapP b15 [] :: _)
    exact (List.Perm.cons _ (.swap _ _ _)).trans (.swap _ _ _)
  have HM := Ak hm0
  clear hm0 H hHeld hF hc18
  go_wp2
  go_loopg [24] cl.length (fun kq v24 wr => ∃ (i : Nat) (m : List (Int × List Int)), v24 = .int .i64 (i : Int) ∧ Aside0 (i + kq = cl.length) ∧ Aside0 (occAll i m (cl.drop i) = fin) ∧ Aside0 (∀ n, (occOf m n).length ≤ i * 100000) ∧ Aside0 (St w wr (gP w.heap.size b15 m :: [box g 82 #[.int .i64 vars, .slice A14 cl.length c14, .map (some b15), v18, .slice none 0 0, .slice none 0 0, .int .i64 0, .int .i64 fuel, .int .i64 0, .slice none 0 0, .bool false, .bool false], row w.heap.size (MX w) 25 (.slice A14 cl.length c14) cl, row w.heap.size (Kd.int .i8) 96 v18 (List.replicate (vars + 1).toNat 0)])))
  case atStart => exact ⟨0, [], rfl, ⟨by omega⟩, ⟨by rw [List.drop_zero]; exact HF.out⟩, ⟨fun n => occ_nil n _⟩, HM⟩
  case round =>
    obtain ⟨i, m, rfl, HK, HE, HL, H1⟩ := hrel
    obtain ⟨ko, hko⟩ : ∃ k, k = gk := ⟨gk, rfl⟩
    rw [← hko] at HK
    have HKO := Ak hko; clear hko
    by_cases hi : i < cl.length
    · have hi0 : (0 : Int) ≤ (i : Int) := by omega
      have hi1 : (i : Int) < (cl.length : Int) := by omega
      obtain ⟨ad, A', c', rfl, hx, hxc, hxr⟩ := at_rows HR.out (i : Int) hi0 hi1
      have hx := pw_cell_below H1.out.below hx
      rw [Int.toNat_natCast] at hx
      have hd : cl.drop i = rdL cl (i : Int) :: cl.drop (i + 1) := by
        rw [List.drop_eq_getElem_cons hi]; simp [rdL, hi]
      have HE2 := HE.out; rw [hd] at HE2; unfold occAll at HE2
      have hci : rdL cl (i : Int) ∈ cl := by
        unfold rdL; rw [List.getD_eq_getElem?_getD, Int.toNat_natCast, List.getElem?_eq_getElem hi]; exact List.getElem_mem _
      have hlen := HLL.out _ hci
      generalize rdL cl (i : Int) = ci at hx hxc hxr HE2 hlen
      have HE3 := Ak HE2; have HXR := Ak hxr
      clear HE2 HE hd hxr hci
      go_wp2
      go_loopg [31] ci.length (fun kq v31 wr => ∃ (j : Nat) (m : List (Int × List Int)), v31 = .int .i64 (j : Int) ∧ Aside0 (j + kq = ci.length) ∧ Aside0 (occAll (i + 1) (occRow (i : Int) m (ci.drop j)) (cl.drop (i + 1)) = fin) ∧ Aside0 (∀ n, (occOf m n).length ≤ i * 100000 + j) ∧ Aside0 (St w wr (gP w.heap.size b15 m :: [box g 82 #[.int .i64 vars, .slice A14 cl.length c14, .map (some b15), v18, .slice none 0 0, .slice none 0 0, .int .i64 0, .int .i64 fuel, .int .i64 0, .slice none 0 0, .bool false, .bool false], row w.heap.size (MX w) 25 (.slice A14 cl.length c14) cl, row w.heap.size (Kd.int .i8) 96 v18 (List.replicate (vars + 1).toNat 0)])))
      case atStart => exact ⟨0, m, rfl, ⟨by omega⟩, ⟨by rw [List.drop_zero]; exact HE3.out⟩, ⟨fun n => Nat.le_trans (HL.out n) (Nat.le_add_right _ _)⟩, H1⟩
      case round =>
        obtain ⟨j, m, rfl, HJ, HE, HL, H1⟩ := hrel
        by_cases hj : j < ci.length
        · have hj0 : (0 : Int) ≤ (j : Int) := by omega
          have hj1 : (j : Int) < (ci.length : Int) := by omega
          obtain ⟨adj, rfl, hxj⟩ := Kd.at_int (Kd.C_below HXR.out H1.out.below) (j : Int) hj0 hj1
          rw [Int.toNat_natCast] at hxj
          have hd : ci.drop j = rd ci (j : Int) :: ci.drop (j + 1) := by
            rw [List.drop_eq_getElem_cons hj]; simp [rd, hj]
          have HE2 := HE.out; rw [hd] at HE2; unfold occRow at HE2
          generalize rd ci (j : Int) = n at hxj HE2
          have HE4 := Ak HE2
          clear HE2 HE hd
          obtain ⟨v, fs, M, h2, hlk, hshut⟩ := gP_open H1.out n
          simp only [List.cons_append, List.nil_append] at h2 hshut
          have H2 := Ak h2; have HLK := Ak hlk; have HSH := Ak hshut
          have hvl := HL.out n
          have hbytes : ((occOf m n).length + 1) * 8 ≤ 140737488355328 := by omega
          have HBY := Ak hbytes
          clear h2 hlk hshut hbytes hvl
          obtain ⟨Av, cv, rfl, hcv, _⟩ := H2.out.row_reads (i := 0) rfl
          go_wp2
          clear hxj
          have n0_ := Ak H2.out.drew
          clear H2
          have H2 := n0_
          clear n0_
          refine start_ (n := 15) (S := fun w' => ∃ v' xs', St w w' (row w.heap.size (Kd.int .i64) 3 v' xs' :: mapP b15 fs :: box g 82 #[.int .i64 vars, .slice A14 cl.length c14, .map (some b15), v18, .slice none 0 0, .slice none 0 0, .int .i64 0, .int .i64 fuel, .int .i64 0, .slice none 0 0, .bool false, .bool false] :: row w.heap.size (MX w) 25 (.slice A14 cl.length c14) cl :: row w.heap.size (Kd.int .i8) 96 v18 (List.replicate (vars + 1).toNat 0) :: M)) (ds := [14]) #[false, false, false, false, false, false, false, false, false, false, false, false, false, false, false] (by kernel_rfl) rfl rfl (⟨_, _, H2.out⟩) (fun hHeld => ?_)
          generalize World.drew _ = w_34 at H2 hHeld ⊢
          refine pure_ (i := 0) (N := some 35) (v := ?_) (a' := ?_) #[true, false, false, false, false, false, false, false, false, false, false, false, false, false, false] rfl rfl (by kernel_rfl) (fun _ _ _ h => h) (Or.inl ⟨by rfl, ?_⟩) ?_ ?_
          rotate_left
          · intro w'
            go_simp
            with_reducible rfl
          rotate_left
          · (try simp only [Act.put, La, Lb, Lc, i64_w, i32_w])
            rfl
          refine pure_ (i := 1) (N := some 36) (v := ?_) (a' := ?_) #[true, true, false, false, false, false, false, false, false, false, false, false, false, false, false] rfl rfl (by kernel_rfl) (fun _ _ _ h => h) (Or.inl ⟨by rfl, ?_⟩) ?_ ?_
          rotate_left
          · intro w'
            go_simp
            with_reducible rfl
          rotate_left
          · (try simp only [Act.put, La, Lb, Lc, i64_w, i32_w])
            rfl
          refine pure_ (i := 2) (N := some 37) (v := ?_) (a' := ?_) #[true, true, true, false, false, false, false, false, false, false, false, false, false, false, false] rfl rfl (by kernel_rfl) (fun _ _ _ h => h) (Or.inl ⟨by rfl, ?_⟩) ?_ ?_
          rotate_left
          · intro w'
            go_simp
            with_reducible rfl
          rotate_left
          · (try simp only [Act.put, La, Lb, Lc, i64_w, i32_w])
            rfl
          refine take_ (i := 3) (N := some 38) (v := ?_) (a' := ?_) #[true, true, true, true, false, false, false, false, false, false, false, false, false, false, false] rfl rfl (by kernel_rfl) (fun _ _ _ h => h) (Or.inl ⟨by rfl, ?_⟩) hHeld ?_ ?_
          rotate_left
          · rintro w' ⟨v', xs', hs⟩
            have k2 := hs.box_cell (i := 2) rfl 2
            obtain ⟨es, clock, hmb, hKI⟩ := hs.map_at (i := 1) rfl
            have hl := run_lookup_int Try.underlying78 Try.underlying3 hmb hKI (z := .slice none 0 0) (by kernel_rfl) n
            rw [HLK.out] at hl
            simp only [List.getElem?_toArray, List.getElem?_cons_zero, List.getElem?_cons_succ] at k2
            go_simp
            with_reducible rfl
          rotate_left
          · (try simp only [Act.put, La, Lb, Lc, i64_w, i32_w])
            rfl
          refine pure_ (i := 4) (N := some 39) (v := ?_) (a' := ?_) #[true, true, true, true, true, false, false, false, false, false, false, false, false, false, false] rfl rfl (by kernel_rfl) (fun _ _ _ h => h) (Or.inl ⟨by rfl, ?_⟩) ?_ ?_
          rotate_left
          · intro w'
            go_simp
            with_reducible rfl
          rotate_left
          · (try simp only [Act.put, La, Lb, Lc, i64_w, i32_w])
            rfl
          refine pure_ (i := 5) (N := some 40) (v := ?_) (a' := ?_) #[true, true, true, true, true, true, false, false, false, false, false, false, false, false, false] rfl rfl (by kernel_rfl) (fun _ _ _ h => h) (Or.inl ⟨by rfl, ?_⟩) ?_ ?_
          rotate_left
          · intro w'
            go_simp
            with_reducible rfl
          rotate_left
          · (try simp only [Act.put, La, Lb, Lc, i64_w, i32_w])
            rfl
          refine pure_ (i := 6) (N := some 41) (v := ?_) (a' := ?_) #[true, true, true, true, true, true, true, false, false, false, false, false, false, false, false] rfl rfl (by kernel_rfl) (fun _ _ _ h => h) (Or.inl ⟨by rfl, ?_⟩) ?_ ?_
          rotate_left
          · intro w'
            go_simp
            with_reducible rfl
          rotate_left
          · (try simp only [Act.put, La, Lb, Lc, i64_w, i32_w])
            rfl
          refine pure_ (i := 7) (N := some 42) (v := ?_) (a' := ?_) #[true, true, true, true, true, true, true, true, false, false, false, false, false, false, false] rfl rfl (by kernel_rfl) (fun _ _ _ h => h) (Or.inl ⟨by rfl, ?_⟩) ?_ ?_
          rotate_left
          · intro w'
            go_simp
            with_reducible rfl
          rotate_left
          · (try simp only [Act.put, La, Lb, Lc, i64_w, i32_w])
            rfl
          refine take_ (i := 8) (N := some 43) (v := ?_) (a' := ?_) #[true, true, true, true, true, true, true, true, true, false, false, false, false, false, false] rfl rfl (by kernel_rfl) (fun _ _ _ h => h) (Or.inl ⟨by rfl, ?_⟩) hHeld ?_ ?_
          rotate_left
          · rintro w' ⟨v', xs', hs⟩
            have k2 := hs.box_cell (i := 2) rfl 2
            obtain ⟨es, clock, hmb, hKI⟩ := hs.map_at (i := 1) rfl
            have hl := run_lookup_int Try.underlying78 Try.underlying3 hmb hKI (z := .slice none 0 0) (by kernel_rfl) n
            rw [HLK.out] at hl
            simp only [List.getElem?_toArray, List.getElem?_cons_zero, List.getElem?_cons_succ] at k2
            go_simp
            with_reducible rfl
          rotate_left
          · (try simp only [Act.put, La, Lb, Lc, i64_w, i32_w])
            rfl
          refine pure_ (i := 9) (N := some 44) (v := ?_) (a' := ?_) #[true, true, true, true, true, true, true, true, true, true, false, false, false, false, false] rfl rfl (by kernel_rfl) (fun _ _ _ h => h) (Or.inl ⟨by rfl, ?_⟩) ?_ ?_
          rotate_left
          · intro w'
            go_simp
            with_reducible rfl
          rotate_left
          · (try simp only [Act.put, La, Lb, Lc, i64_w, i32_w])
            rfl
          refine take_ (i := 10) (N := some 45) (v := ?_) (a' := ?_) #[true, true, true, true, true, true, true, true, true, true, true, false, false, false, false] rfl rfl (by kernel_rfl) (fun _ _ _ h => h) (Or.inl ⟨by rfl, ?_⟩) hHeld ?_ ?_
          rotate_left
          · rintro w' ⟨v', xs', hs⟩
            have k2 := hs.box_cell (i := 2) rfl 2
            obtain ⟨es, clock, hmb, hKI⟩ := hs.map_at (i := 1) rfl
            have hl := run_lookup_int Try.underlying78 Try.underlying3 hmb hKI (z := .slice none 0 0) (by kernel_rfl) n
            rw [HLK.out] at hl
            simp only [List.getElem?_toArray, List.getElem?_cons_zero, List.getElem?_cons_succ] at k2
            go_simp
            with_reducible rfl
          rotate_left
          · (try simp only [Act.put, La, Lb, Lc, i64_w, i32_w])
            rfl
          refine pure_ (i := 11) (N := some 46) (v := ?_) (a' := ?_) #[true, true, true, true, true, true, true, true, true, true, true, true, false, false, false] rfl rfl (by kernel_rfl) (fun _ _ _ h => h) (Or.inl ⟨by rfl, ?_⟩) ?_ ?_
          rotate_left
          · intro w'
            go_simp
            with_reducible rfl
          rotate_left
          · (try simp only [Act.put, La, Lb, Lc, i64_w, i32_w])
            rfl
          refine one_ (i := 12) (N := some 47) #[true, true, true, true, true, true, true, true, true, true, true, true, true, false, false] rfl rfl (by kernel_rfl) (by decide) (fun K hK => ?_)
          refine value_ (v := .slice (some ⟨w_34.heap.size, 0, none⟩) 1 1) (w1 := w_34.alloc (.cells #[.int .i64 (i : Int)] 3)) (by rfl) rfl ?run_36 ?main_36
          · first | (go_simp; done) | (go_simp; rfl)
          have n0_ := Ak (H2.out)
          clear H2
          have H2 := n0_
          clear n0_
          clear hHeld
          (try clear hb)
          refine hK.out _ _ (⟨_, _, H2.out.alloc' _⟩) (fun hHeld => ?_)
          clear hK K
          refine norm_ (a' := ?_) ?_ ?_
          rotate_left
          · show Act.put _ (some 47) _ = _
            (try simp only [Act.put, La, Lb, Lc, i64_w, i32_w])
            rfl
          refine one_ (i := 13) (N := some 48) #[true, true, true, true, true, true, true, true, true, true, true, true, true, true, false] rfl rfl (by kernel_rfl) (by decide) (fun K hK => ?_)
          refine st_append_int_step (k := .i64) (e := 3) (xs := occOf m n) (y := (i : Int)) H2.out (i := 0) rfl rfl (.tmp 45) (.tmp 47) 25 8 rfl Try.underlying25 info3 (by decide) rfl rfl HBY.out ?_
          intro v48 w_37 hs48
          simp only [List.set] at hs48
          have n0_ := Ak (hs48)
          clear H2
          have H2 := n0_
          clear n0_
          clear hHeld
          (try clear hb)
          refine hK.out _ _ (⟨_, _, H2.out⟩) (fun hHeld => ?_)
          clear hK K
          refine norm_ (a' := ?_) ?_ ?_
          rotate_left
          · show Act.put _ (some 48) _ = _
            (try simp only [Act.put, La, Lb, Lc, i64_w, i32_w])
            rfl
          refine last_ (i := 14) (N := none) #[true, true, true, true, true, true, true, true, true, true, true, true, true, true, true] rfl rfl (by kernel_rfl) (by decide) (fun K hK => ?_)
          obtain ⟨w_39, hrun, hsm⟩ := H2.out.map_put (P := Try.prog) Try.underlying78 Try.underlying3 (i := 1) rfl n v48
          refine skip_ (w1 := w_39) (by rfl) rfl ?_ ?_
          · first | (go_simp; done) | (go_simp; rfl)
          simp only [List.set] at hsm
          have n0_ := Ak (hsm)
          clear H2
          have H2 := n0_
          clear n0_
          clear hHeld
          (try clear hb)
          refine hK.out _ _ ?_
          clear hK K
          refine done_ (by kernel_rfl) ?_
          have h3 := HSH.out v48 _ _ H2.out
          have H3 := Ak h3
          have hln : ∀ n', (occOf (aput m n (occOf m n ++ [(i : Int)])) n').length ≤ i * 100000 + (j + 1) := by
            intro n'
            have h1 := HL.out n'
            have h2 := HL.out n
            show ((alook (aput m n _) n').getD []).length ≤ _
            rw [alook_aput]
            split
            · simp only [Option.getD_some, List.length_append, List.length_cons, List.length_nil]; omega
            · show (occOf m n').length ≤ _; omega
          have HL2 := Ak hln
          clear h3 hln H2 hrun hsm hs48 HSH HLK
          (try clear hHeld)
          go_wp2
          go_roundg (gk - 1)
          case measure => have := HJ.out; omega
          case rel => exact ⟨j + 1, _, by go_num, ⟨by have := HJ.out; omega⟩, HE4, HL2, H3⟩
        · have hj1 : ¬ (j : Int) < (ci.length : Int) := by omega
          have HE2 := HE.out; rw [List.drop_of_length_le (by omega)] at HE2; unfold occRow at HE2
          have HE4 := Ak HE2
          have hln : ∀ n', (occOf m n').length ≤ (i + 1) * 100000 := by
            intro n'; have := HL.out n'; have := HJ.out; omega
          have HL2 := Ak hln
          clear HE2 HE hln
          go_wp2
          go_roundg (ko - 1)
          case measure => have := HK.out; have := HKO.out; omega
          case rel => exact ⟨i + 1, m, by go_num, ⟨by have := HK.out; omega⟩, HE4, HL2, H1⟩
    · have hi1 : ¬ (i : Int) < (cl.length : Int) := by omega
      have HE2 := HE.out; rw [List.drop_of_length_le (by omega)] at HE2; unfold occAll at HE2
      subst HE2
      have h2 := (H1.out.front (i := 2) rfl)
      simp only [List.eraseIdx] at h2
      obtain ⟨fx, e1, e2, e3, e4, h4⟩ := fx_close (L := [box g 82 #[.int .i64 vars, .slice A14 cl.length c14, .map (some b15), v18, .slice none 0 0, .slice none 0 0, .int .i64 0, .int .i64 fuel, .int .i64 0, .slice none 0 0, .bool false, .bool false], row w.heap.size (Kd.int .i8) 96 v18 (List.replicate (vars + 1).toNat 0)]) h2
      injection e3 with e31 _ e33
      subst e1; subst e2; subst e31; subst e33
      have h5 := (((((h4.row_nil (Kd.int .i64) 3).row_nil (Kd.int .i64) 3).front (i := 4) rfl).front (i := 3) rfl).front (i := 4) rfl)
      simp only [List.eraseIdx] at h5
      have H6 := Ak h5
      have H4 := Ak e4
      clear h2 h4 h5 H1 e4
      go_wp2
      go_ret
      exact ⟨g, rfl, fx, rfl, ⟨v18, .slice none 0 0, .slice none 0 0, H6.out⟩, H4.out⟩
end Go.Proofs.Ytapbkoolddnjgaa.PA
