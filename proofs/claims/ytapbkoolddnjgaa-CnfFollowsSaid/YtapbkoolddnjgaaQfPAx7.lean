/- What the claim needs of PAx7: lemmas and contracts, cut by a program to what is used. -/
import Derived.Test.YtapbkoolddnjgaaQfPAx0
import Derived.Test.YtapbkoolddnjgaaQfPAx1
import Derived.Test.YtapbkoolddnjgaaQfPAx2
import Derived.Test.YtapbkoolddnjgaaQfPAx3
import Derived.Test.YtapbkoolddnjgaaQfPAx4
import Derived.Test.YtapbkoolddnjgaaQfPAx5
import Derived.Test.YtapbkoolddnjgaaQfPAx6
namespace Go.Proofs.Ytapbkoolddnjgaa.PA
open Go.RowKit Go.Proofs.YtapbkoolddnjgaaW.PrintWords Go.Proofs.YtapbkoolddnjgaaW.PrintLast Go.Proofs.YtapbkoolddnjgaaW.PrintMore Go.Proofs.Sl
attribute [local go_sem] max2_int min2_int max_two min_two max_three min_three max_four min_four
set_option linter.unusedVariables false
set_option linter.unusedSimpArgs false
theorem vals_det {s t : Sv} (hs : s.Ok) (ht : t.Ok) (hv : s.vars = t.vars) (he : s.trail = t.trail) : s.vals = t.vals := by
  have h1 := hs.vals; have h2 := ht.vals
  refine List.ext_getElem (by omega) (fun i hi hj => ?_)
  have a := hs.det i hi; have b := ht.det i hj
  rw [List.getD_eq_getElem?_getD, List.getElem?_eq_getElem hi] at a
  rw [List.getD_eq_getElem?_getD, List.getElem?_eq_getElem hj] at b
  simp only [Option.getD_some] at a b
  rw [a, b, he]
theorem back_alike {s t : Sv} (hs : s.Ok) (ht : t.Ok) (h : s.Alike t) (hd : s.done = s.trail.length) : t.back s.trail.length = s := by
  obtain ⟨l, hl⟩ := h.trail
  obtain ⟨r, hr⟩ := h.reasons
  have hle : s.trail.length ≤ t.trail.length := by rw [hl, List.length_append]; omega
  have htr : (t.back s.trail.length).trail = s.trail := by
    show t.trail.take _ = _
    rw [hl, List.take_left']
    rfl
  have hre : (t.back s.trail.length).reasons = s.reasons := by
    show t.reasons.take _ = _
    rw [hr, ← hs.same, List.take_left']
    rfl
  have hva : (t.back s.trail.length).vals = s.vals := vals_det (ht.back hle) hs h.vars htr
  have hdo : (t.back s.trail.length).done = s.done := by
    show mn t.done _ = _
    have := h.done
    unfold mn; split <;> omega
  have e1 := h.vars; have e2 := h.cl; have e3 := h.occ; have e4 := h.fuel; have e5 := h.steps; have e6 := h.failed
  cases s with
  | mk a1 a2 a3 a4 a5 a6 a7 a8 a9 a10 =>
    cases t with
    | mk b1 b2 b3 b4 b5 b6 b7 b8 b9 b10 =>
      simp only [Sv.back] at htr hre hva hdo ⊢
      simp only at e1 e2 e3 e4 e5 e6
      rw [htr, hre, hva, hdo, e1, e2, e3, e4, e5, e6]
def Sv.nextV (s : Sv) : Nat → Int → Int
  | 0, v => v
  | k + 1, v => if v ≤ s.vars then (if rd s.vals v = 0 then v else s.nextV k (v + 1)) else v
theorem nextV_spec {s : Sv} : ∀ {k : Nat} {v : Int}, 1 ≤ v → v ≤ s.vars + 1 → s.vars + 1 - v < k → v ≤ s.nextV k v ∧ s.nextV k v ≤ s.vars + 1 ∧ (s.nextV k v ≤ s.vars → rd s.vals (s.nextV k v) = 0)
  | 0, v, h1, h2, h3 => by omega
  | k + 1, v, h1, h2, h3 => by
    unfold Sv.nextV
    split
    · split
      · rename_i h4 h5
        exact ⟨Int.le_refl _, h2, fun _ => h5⟩
      · have := nextV_spec (s := s) (k := k) (v := v + 1) (by omega) (by omega) (by omega)
        exact ⟨by omega, this.2.1, this.2.2⟩
    · rename_i h4
      exact ⟨Int.le_refl _, h2, fun h => absurd h h4⟩
def Sv.count : Nat → Sv → Int → Int
  | 0, _, _ => 0
  | k + 1, s, v0 => if s.vars < s.nextV 1002 v0 then 1 else
      (if ((s.assume (-(s.nextV 1002 v0)) (-1)).propagate 1002).1 < 0 then Sv.count k ((s.assume (-(s.nextV 1002 v0)) (-1)).propagate 1002).2 (s.nextV 1002 v0 + 1) else 0) +
      (if ((s.assume (s.nextV 1002 v0) (-1)).propagate 1002).1 < 0 then Sv.count k ((s.assume (s.nextV 1002 v0) (-1)).propagate 1002).2 (s.nextV 1002 v0 + 1) else 0)
theorem lookAll_neg : ∀ {l : List Int} {s : Sv}, (∀ i ∈ l, 0 ≤ i) → (s.lookAll l).1 = -1 ∨ 0 ≤ (s.lookAll l).1
  | [], s, _ => .inl rfl
  | i :: l, s, h => by
    unfold Sv.lookAll
    split
    · exact .inr (h i (List.mem_cons_self ..))
    · exact lookAll_neg (fun j hj => h j (List.mem_cons_of_mem _ hj))
theorem propagate_all : ∀ {k : Nat} {s : Sv}, s.Ok → 1002 ≤ (k : Int) + s.done → (Sv.propagate k s).1 < 0 → (Sv.propagate k s).2.done = (Sv.propagate k s).2.trail.length
  | 0, s, h, hk, _ => by have := h.done1; have := h.trail_le; have := h.vars1; omega
  | k + 1, s, h, hk, hl => by
    unfold Sv.propagate at hl ⊢
    by_cases hd : s.done < s.trail.length
    · rw [if_pos hd] at hl ⊢
      have h1 := h.step hd
      obtain ⟨m1, m2, m3⟩ := Sv.lookAll_ok (l := occOf s.occ (-(rd s.trail s.done))) h1 (occOf_mem h.occ)
      split at hl
      · rename_i he
        rw [if_pos he]
        exact propagate_all m1 (by rw [m3]; show 1002 ≤ (k : Int) + (s.done + 1); omega) hl
      · rename_i he
        have := lookAll_neg (s := ({ s with done := s.done + 1 } : Sv)) (l := occOf s.occ (-(rd s.trail s.done))) (fun i hi => (occOf_mem h.occ i hi).1)
        omega
    · rw [if_neg hd]
      have := h.done1
      show s.done = (s.trail.length : Int)
      omega
theorem tried {s : Sv} (h : s.Ok) (hd : s.done = s.trail.length) {n : Int} (hn : n ≠ 0 ∧ -s.vars ≤ n ∧ n ≤ s.vars) (h0 : litVal s.vals n = 0) :
    ((s.assume n (-1)).propagate 1002).2.Ok ∧ s.Alike ((s.assume n (-1)).propagate 1002).2 ∧ ((s.assume n (-1)).propagate 1002).2.back s.trail.length = s ∧ s.trail.length ≤ ((s.assume n (-1)).propagate 1002).2.trail.length ∧
      (((s.assume n (-1)).propagate 1002).1 < 0 → ((s.assume n (-1)).propagate 1002).2.done = ((s.assume n (-1)).propagate 1002).2.trail.length) := by
  have h1 := h.assume (r := -1) hn h0
  obtain ⟨h2, h3⟩ := Sv.propagate_ok (k := 1002) h1
  have h4 := (Sv.Alike.assume s n (-1)).trans h3
  refine ⟨h2, h4, back_alike h h2 h4 hd, ?_, fun hl => propagate_all h1 ?_ hl⟩
  · obtain ⟨l, hl⟩ := h4.trail
    rw [hl, List.length_append]; omega
  · have := h1.done0; omega
theorem litVal_zero {s : Sv} {v : Int} (hv : 1 ≤ v) (h : rd s.vals v = 0) : litVal s.vals v = 0 ∧ litVal s.vals (-v) = 0 := by
  unfold litVal
  rw [if_neg (by omega), if_pos (by omega), Int.neg_neg, h]
  exact ⟨rfl, rfl⟩
theorem count_le : ∀ {k : Nat} {s : Sv} {v : Int}, 0 ≤ s.count k v ∧ s.count k v ≤ 2 ^ k
  | 0, s, v => by unfold Sv.count; exact ⟨Int.le_refl _, by decide⟩
  | k + 1, s, v => by
    unfold Sv.count
    have hp : (2 : Int) ^ (k + 1) = 2 ^ k + 2 ^ k := by rw [Int.pow_succ]; omega
    have hq : (1 : Int) ≤ 2 ^ k := by have := Nat.one_le_two_pow (n := k); exact_mod_cast this
    split
    · omega
    · have a := count_le (k := k) (s := ((s.assume (-(s.nextV 1002 v)) (-1)).propagate 1002).2) (v := s.nextV 1002 v + 1)
      have b := count_le (k := k) (s := ((s.assume (s.nextV 1002 v) (-1)).propagate 1002).2) (v := s.nextV 1002 v + 1)
      split <;> split <;> omega
set_option maxHeartbeats 8000000 in
set_option maxRecDepth 100000 in
theorem count56 : ∀ (k : Nat) (s : Sv) (v : Int) (fx : Fx) (g : Nat) (w : World) (R : List Asn) (h : IsSv fx w g s R) (hok : s.Ok) (hfx : fx.Ok s.cl s.occ) (hd : s.done = s.trail.length) (hv : 1 ≤ v ∧ v ≤ s.vars + 1) (hk : s.vars + 1 - v < k) (hk2 : k ≤ 20),
    Calls Try.prog 56 #[.pointer (some ⟨g, 0, none⟩), .int .i64 v] w fun e w' => e = .returned (.int .i64 (s.count k v)) ∧ IsSv fx w' g s R := by
  intro k
  induction k with
  | zero => intro s v fx g w R h hok hfx hd hv hk hk2; omega
  | succ k ih =>
  intro s v fx g w R h hok hfx hd hv hk hk2
  have hnx := nextV_spec (s := s) (k := 1002) hv.1 hv.2 (by have := hok.vars1; omega)
  generalize hres : s.count (k + 1) v = res
  unfold Sv.count at hres
  generalize hnv : s.nextV 1002 v = nv at hnx hres
  have hu82 := Try.underlying82
  have HI := Ak ih; have HX := Ak hfx; have HOK := Ak hok; have HD := Ak hd; have HN := Ak hnx; have HRES := Ak hres; have HNV := Ak hnv
  have hvl := hok.vals; have hv1 := hok.vars1; have htl := hok.trail_le
  have H := Ak h
  obtain ⟨hva, hvb⟩ := hv
  clear ih hfx hok hd hnx hres hnv h
  go_enter Try.func56, Try.ntmps56
  go_wp2
  go_loopg [1] 1002 (fun kq v1 wr => ∃ u : Int, v1 = .int .i64 u ∧ 1 ≤ u ∧ u ≤ s.vars + 1 ∧ Aside0 (s.vars + 1 - u < kq) ∧ Aside0 (s.nextV kq u = nv) ∧ Aside0 (IsSv fx wr g s R))
  case atStart => exact ⟨v, rfl, hva, hvb, ⟨by omega⟩, HNV, H⟩
  case round =>
    obtain ⟨u, rfl, hu1, hu2, HQ, HE, H1⟩ := hrel
    obtain ⟨k1, rfl⟩ : ∃ m, gk = m + 1 := ⟨gk - 1, by have := HQ.out; omega⟩
    obtain ⟨vV, tV, rV, h1⟩ := H1.out
    simp only [SvL, List.cons_append, List.nil_append] at h1
    have c0 := h1.box_cell (i := 0) rfl 0
    have c3 := h1.box_cell (i := 0) rfl 3
    obtain ⟨gv, cv, rfl⟩ := h1.row_form (i := 2) rfl (by omega)
    simp only [List.getElem?_toArray, List.getElem?_cons_zero, List.getElem?_cons_succ] at c0 c3
    have he := HE.out
    unfold Sv.nextV at he
    by_cases hle : u ≤ s.vars
    · rw [if_pos hle] at he
      have hcell := (h1.row_cell (i := 2) rfl u (by omega) (by omega)).1
      by_cases hz : rd s.vals u = 0
      · rw [if_pos hz] at he
        subst he
        rw [hz] at hcell
        obtain ⟨At, ct, rfl, hct, _⟩ := h1.row_reads (i := 3) rfl
        have H2 := Ak h1
        go_wp2
        clear c0 c3 hcell h1
        have n0_ := Ak H2.out.drew
        clear H2
        have H2 := n0_
        clear n0_
        refine start_ (n := 7) (S := fun w' => St fx.w0 w' (box g 82 #[.int .i64 s.vars, .slice fx.Ac s.cl.length fx.cc, .map (some fx.b), .slice (some ⟨gv, 0, none⟩) s.vals.length cv, .slice At s.trail.length ct, rV, .int .i64 s.done, .int .i64 s.fuel, .int .i64 s.steps, .slice none 0 0, .bool false, .bool s.failed] :: fzA fx.wS fx.F0 :: row fx.w0.heap.size (Kd.int .i8) 96 (.slice (some ⟨gv, 0, none⟩) s.vals.length cv) s.vals :: row fx.w0.heap.size (Kd.int .i64) 3 (.slice At s.trail.length ct) s.trail :: row fx.w0.heap.size (Kd.int .i64) 3 rV s.reasons :: R)) (ds := []) #[false, false, false, false, false, false, false] (by kernel_rfl) rfl rfl (H2.out) (fun hHeld => ?_)
        generalize World.drew _ = w_0 at H2 hHeld ⊢
        refine pure_ (i := 0) (N := some 33) (v := ?_) (a' := ?_) #[true, false, false, false, false, false, false] rfl rfl (by kernel_rfl) (fun _ _ _ h => h) (Or.inl ⟨by rfl, ?_⟩) ?_ ?_
        rotate_left
        · intro w'
          go_simp
          with_reducible rfl
        rotate_left
        · (try simp only [Act.put, La, Lb, Lc, i64_w, i32_w])
          rfl
        refine pure_ (i := 1) (N := some 34) (v := ?_) (a' := ?_) #[true, true, false, false, false, false, false] rfl rfl (by kernel_rfl) (fun _ _ _ h => h) (Or.inl ⟨by rfl, ?_⟩) ?_ ?_
        rotate_left
        · intro w'
          go_simp
          with_reducible rfl
        rotate_left
        · (try simp only [Act.put, La, Lb, Lc, i64_w, i32_w])
          rfl
        refine pure_ (i := 2) (N := some 35) (v := ?_) (a' := ?_) #[true, true, true, false, false, false, false] rfl rfl (by kernel_rfl) (fun _ _ _ h => h) (Or.inl ⟨by rfl, ?_⟩) ?_ ?_
        rotate_left
        · intro w'
          go_simp
          with_reducible rfl
        rotate_left
        · (try simp only [Act.put, La, Lb, Lc, i64_w, i32_w])
          rfl
        refine take_ (i := 3) (N := some 36) (v := ?_) (a' := ?_) #[true, true, true, true, false, false, false] rfl rfl (by kernel_rfl) (fun _ _ _ h => h) (Or.inl ⟨by rfl, ?_⟩) hHeld ?_ ?_
        rotate_left
        · intro w' hs
          have k4 := hs.box_cell (i := 0) rfl 4
          simp only [List.getElem?_toArray, List.getElem?_cons_zero, List.getElem?_cons_succ] at k4
          go_simp
          with_reducible rfl
        rotate_left
        · (try simp only [Act.put, La, Lb, Lc, i64_w, i32_w])
          rfl
        refine pure_ (i := 4) (N := some 37) (v := ?_) (a' := ?_) #[true, true, true, true, true, false, false] rfl rfl (by kernel_rfl) (fun _ _ _ h => h) (Or.inl ⟨by rfl, ?_⟩) ?_ ?_
        rotate_left
        · intro w'
          go_simp
          with_reducible rfl
        rotate_left
        · (try simp only [Act.put, La, Lb, Lc, i64_w, i32_w])
          rfl
        refine pure_ (i := 5) (N := some 5) (v := ?_) (a' := ?_) #[true, true, true, true, true, true, false] rfl rfl (by kernel_rfl) (fun _ _ _ h => h) (Or.inl ⟨by rfl, ?_⟩) ?_ ?_
        rotate_left
        · intro w'
          go_simp
          with_reducible rfl
        rotate_left
        · (try simp only [Act.put, La, Lb, Lc, i64_w, i32_w])
          rfl
        refine pure_ (i := 6) (N := some 6) (v := ?_) (a' := ?_) #[true, true, true, true, true, true, true] rfl rfl (by kernel_rfl) (fun _ _ _ h => h) (Or.inl ⟨by rfl, ?_⟩) ?_ ?_
        rotate_left
        · intro w'
          go_simp
          with_reducible rfl
        rotate_left
        · (try simp only [Act.put, La, Lb, Lc, i64_w, i32_w])
          rfl
        refine done_ (by kernel_rfl) ?_
        have H3 : Aside0 (IsSv fx w_0 g s R) := ⟨_, _, _, H2.out⟩
        clear H2 hHeld H1
        obtain ⟨hz1, hz2⟩ := litVal_zero hu1 hz
        have hre := HRES.out
        rw [if_neg (by omega)] at hre
        have HR2 := Ak hre
        have HT1 := Ak (tried HOK.out HD.out (n := -u) ⟨by omega, by omega, by omega⟩ hz2)
        have HT2 := Ak (tried HOK.out HD.out (n := u) ⟨by omega, by omega, by omega⟩ hz1)
        have HK1 : Aside0 (s.knows (-u)) := ⟨by omega, by omega, by omega, by omega⟩
        have HK2 : Aside0 (s.knows u) := ⟨by omega, by omega, by omega, by omega⟩
        have HO1 := Ak (HOK.out.assume (n := -u) (r := -1) ⟨by omega, by omega, by omega⟩ hz2)
        have HO2 := Ak (HOK.out.assume (n := u) (r := -1) ⟨by omega, by omega, by omega⟩ hz1)
        have hrl : s.reasons.length ≤ 1001 := by rw [HOK.out.same]; exact htl
        generalize hC1 : (if ((s.assume (-u) (-1)).propagate 1002).1 < 0 then Sv.count k ((s.assume (-u) (-1)).propagate 1002).2 (u + 1) else 0) = c1 at HR2
        generalize hC2 : (if ((s.assume u (-1)).propagate 1002).1 < 0 then Sv.count k ((s.assume u (-1)).propagate 1002).2 (u + 1) else 0) = c2 at HR2
        have hp20 : (2 : Int) ^ k ≤ 1048576 := by
          have : (2 : Nat) ^ k ≤ 2 ^ 20 := Nat.pow_le_pow_right (by decide) (by omega)
          have h2 : ((2 ^ k : Nat) : Int) ≤ ((2 ^ 20 : Nat) : Int) := by exact_mod_cast this
          simpa using h2
        have hb1 : 0 ≤ c1 ∧ c1 ≤ 1048576 := by
          rw [← hC1]
          have := count_le (k := k) (s := ((s.assume (-u) (-1)).propagate 1002).2) (v := u + 1)
          split <;> omega
        have hb2 : 0 ≤ c2 ∧ c2 ≤ 1048576 := by
          rw [← hC2]
          have := count_le (k := k) (s := ((s.assume u (-1)).propagate 1002).2) (v := u + 1)
          split <;> omega
        obtain ⟨hb11, hb12⟩ := hb1
        obtain ⟨hb21, hb22⟩ := hb2
        have HC1 := Ak hC1; have HC2 := Ak hC2
        clear hre HRES hz hz1 hz2 hC1 hC2 hp20
        have x0 : ∀ w : World, (Instr.index 108 (.agg #[.int .i64 (-u), .int .i64 u]) (.int .i64 0)).run Try.prog w = .ok (.int .i64 (-u)) w := fun _ => by kernel_rfl
        have x1 : ∀ w : World, (Instr.index 108 (.agg #[.int .i64 (-u), .int .i64 u]) (.int .i64 1)).run Try.prog w = .ok (.int .i64 u) w := fun _ => by kernel_rfl
        go_wp2
        go_loopg [42, 5] 2 (fun kq v42 v5 wr => ∃ (j : Nat) (a : Int), v42 = .int .i64 (j : Int) ∧ v5 = .int .i64 a ∧ ((j = 0 ∧ a = 0 ∧ kq = 2) ∨ (j = 1 ∧ a = c1 ∧ kq = 1) ∨ (j = 2 ∧ a = c1 + c2 ∧ kq = 0)) ∧ Aside0 (IsSv fx wr g s R))
        case atStart => exact ⟨0, 0, rfl, rfl, .inl ⟨rfl, rfl, rfl⟩, H3⟩
        case round =>
          obtain ⟨j, a, rfl, rfl, hj, H4⟩ := hrel
          rcases hj with ⟨rfl, rfl, rfl⟩ | ⟨rfl, rfl, rfl⟩ | ⟨rfl, rfl, rfl⟩
          · have HT := HT1; have HK := HK1; have HO := HO1; have HC := HC1
            clear HT1 HT2 HK1 HK2 HO1 HO2 HC1 HC2
            go_wp2_with fail
            refine (assume77 s _ (-1) fx g _ R H4.out HK.out (by omega) (by omega)).mono ?_
            rintro e w5 ⟨rfl, h5⟩
            have H5 := Ak h5; clear h5 H4
            go_wp2_with fail
            refine (propagate76 _ fx g _ R H5.out HO.out HX.out).mono ?_
            rintro e w6 ⟨rfl, h6⟩
            obtain ⟨q1, q2, q3, q4, q5⟩ := HT.out
            have hc := HC.out
            generalize Sv.propagate 1002 (s.assume (-u) (-1)) = P at h6 q1 q2 q3 q4 q5 hc
            obtain ⟨pi, ps⟩ := P
            dsimp only at h6 q1 q2 q3 q4 q5 hc ⊢
            have H6 := Ak h6; have Q1 := Ak q1; have Q2 := Ak q2; have Q3 := Ak q3; have Q4 := Ak q4
            clear h6 H5 HT HC q1 q2 q3 q4
            by_cases hpi : pi < 0
            · have Q5 := Ak (q5 hpi)
              rw [if_pos hpi] at hc
              have HC2 := Ak hc
              clear q5 hc
              have hfx2 : fx.Ok ps.cl ps.occ := by rw [Q2.out.cl, Q2.out.occ]; exact HX.out
              have HX2 := Ak hfx2; clear hfx2
              go_wp2_with fail
              refine (HI.out ps (u + 1) fx g _ R H6.out Q1.out HX2.out Q5.out ⟨by omega, by rw [Q2.out.vars]; omega⟩ (by have := HN.out.1; rw [Q2.out.vars]; omega) (by omega)).mono ?_
              rintro e w7 ⟨rfl, h7⟩
              have H7 := Ak h7; clear h7 H6
              rw [HC2.out]
              go_wp2_with fail
              refine (back78 ps s.trail.length fx g _ R H7.out Q1.out Q4.out).mono ?_
              rintro e w8 ⟨rfl, h8⟩
              rw [Q3.out] at h8
              have H8 := Ak h8; clear h8 H7
              go_wp2
              go_roundg 1
              case measure => omega
              case rel => exact ⟨1, c1, by go_num, by go_num, .inr (.inl ⟨rfl, rfl, rfl⟩), H8⟩
            · rw [if_neg hpi] at hc
              have HC2 := Ak hc
              clear q5 hc
              go_wp2_with fail
              refine (back78 ps s.trail.length fx g _ R H6.out Q1.out Q4.out).mono ?_
              rintro e w8 ⟨rfl, h8⟩
              rw [Q3.out] at h8
              have H8 := Ak h8; clear h8 H6
              go_wp2
              go_roundg 1
              case measure => omega
              case rel => exact ⟨1, c1, by go_num, by have := HC2.out; first | go_num | (congr 1; omega), .inr (.inl ⟨rfl, rfl, rfl⟩), H8⟩
          · have HT := HT2; have HK := HK2; have HO := HO2; have HC := HC2
            clear HT1 HT2 HK1 HK2 HO1 HO2 HC1 HC2
            go_wp2_with fail
            refine (assume77 s _ (-1) fx g _ R H4.out HK.out (by omega) (by omega)).mono ?_
            rintro e w5 ⟨rfl, h5⟩
            have H5 := Ak h5; clear h5 H4
            go_wp2_with fail
            refine (propagate76 _ fx g _ R H5.out HO.out HX.out).mono ?_
            rintro e w6 ⟨rfl, h6⟩
            obtain ⟨q1, q2, q3, q4, q5⟩ := HT.out
            have hc := HC.out
            generalize Sv.propagate 1002 (s.assume u (-1)) = P at h6 q1 q2 q3 q4 q5 hc
            obtain ⟨pi, ps⟩ := P
            dsimp only at h6 q1 q2 q3 q4 q5 hc ⊢
            have H6 := Ak h6; have Q1 := Ak q1; have Q2 := Ak q2; have Q3 := Ak q3; have Q4 := Ak q4
            clear h6 H5 HT HC q1 q2 q3 q4
            by_cases hpi : pi < 0
            · have Q5 := Ak (q5 hpi)
              rw [if_pos hpi] at hc
              have HC2 := Ak hc
              clear q5 hc
              have hfx2 : fx.Ok ps.cl ps.occ := by rw [Q2.out.cl, Q2.out.occ]; exact HX.out
              have HX2 := Ak hfx2; clear hfx2
              go_wp2_with fail
              refine (HI.out ps (u + 1) fx g _ R H6.out Q1.out HX2.out Q5.out ⟨by omega, by rw [Q2.out.vars]; omega⟩ (by have := HN.out.1; rw [Q2.out.vars]; omega) (by omega)).mono ?_
              rintro e w7 ⟨rfl, h7⟩
              have H7 := Ak h7; clear h7 H6
              rw [HC2.out]
              go_wp2_with fail
              refine (back78 ps s.trail.length fx g _ R H7.out Q1.out Q4.out).mono ?_
              rintro e w8 ⟨rfl, h8⟩
              rw [Q3.out] at h8
              have H8 := Ak h8; clear h8 H7
              go_wp2
              go_roundg 0
              case measure => omega
              case rel => exact ⟨2, (a + c2), by go_num, by go_num, .inr (.inr ⟨rfl, rfl, rfl⟩), H8⟩
            · rw [if_neg hpi] at hc
              have HC2 := Ak hc
              clear q5 hc
              go_wp2_with fail
              refine (back78 ps s.trail.length fx g _ R H6.out Q1.out Q4.out).mono ?_
              rintro e w8 ⟨rfl, h8⟩
              rw [Q3.out] at h8
              have H8 := Ak h8; clear h8 H6
              go_wp2
              go_roundg 0
              case measure => omega
              case rel => exact ⟨2, (a + c2), by go_num, by have := HC2.out; first | go_num | (congr 1; omega), .inr (.inr ⟨rfl, rfl, rfl⟩), H8⟩
          · go_wp2
            go_ret
            exact ⟨by rw [HR2.out]; rfl, H4.out⟩
      · rw [if_neg hz] at he
        have HE2 := Ak he
        have hz0 : (rd s.vals u != 0) = true := bne_iff_ne.2 hz
        clear he HE
        go_wp2
        go_roundg k1
        case measure => omega
        case rel => exact ⟨u + 1, by go_num, by omega, by omega, ⟨by have := HQ.out; omega⟩, HE2, H1⟩
    · rw [if_neg hle] at he
      subst he
      have hre := HRES.out
      rw [if_pos (by omega)] at hre
      subst hre
      clear HE
      go_wp2
      go_ret
      exact ⟨rfl, H1.out⟩
theorem formula_sv {vars fuel : Int} {L : List (List Int)} (h : (checkFormula vars L).2 = 0) : (newSv vars L fuel).Ok ∧ L.length ≤ 100000 ∧ (∀ c ∈ L, c.length ≤ 100000) ∧ 0 ≤ vars ∧ vars ≤ 1000 := by
  obtain ⟨h1, h2, h3, h4⟩ := checkFormula_ok h
  have hlen : ∀ c ∈ L, c.length ≤ 100000 := by
    intro c hc
    have := h4 c hc
    unfold litErr at this
    split at this
    · simp at this
    · rename_i hn
      omega
  refine ⟨newSv_ok ⟨h1, h2⟩ (by omega) hlen (fun c hc n hn => ?_), by omega, hlen, h1, h2⟩
  obtain ⟨h5, h6, h7⟩ := litErr_mem (h4 c hc) n hn
  have h8 : wrap64 (-vars) = -vars := by unfold wrap64; omega
  rw [h8] at h6
  exact ⟨h5, h6, h7⟩
theorem formulaErr_f (vars : Int) (L : List (List Int)) : cnf_formulaErr.f vars L = some (checkFormula vars L).2 := by
  unfold cnf_formulaErr.f cnf_CheckFormula.f
  rfl
def countModels (vars : Int) (L : List (List Int)) : Int × Int :=
  if (checkFormula vars L).2 = 0 then (if vars ≤ 16 then (if 0 ≤ (newSv vars L 0).begin.1 then (0, 0) else ((newSv vars L 0).begin.2.count 18 1, 0)) else (0, 8)) else (0, (checkFormula vars L).2)
def cnf_CountModels.f (a0_0 : Int) (l0_1 : List (List Int)) : Option (Int × Int) := some (countModels a0_0 l0_1)
theorem beginFrom_done : ∀ {l : List (List Int)} {i : Nat} {s : Sv}, s.Ok → i + l.length ≤ s.cl.length → (s.beginFrom i l).1 < 0 → (s.beginFrom i l).2.done = (s.beginFrom i l).2.trail.length
  | [], i, s, h, _, hl => by
    have := h.done0
    exact propagate_all h (by omega) hl
  | c :: l, i, s, h, hi, hl => by
    simp only [List.length_cons] at hi
    unfold Sv.beginFrom at hl ⊢
    obtain ⟨k1, k2, k3⟩ := Sv.look_ok h (i := (i : Int)) (by omega) (by omega)
    split
    · rename_i h2
      rw [if_pos h2] at hl
      split
      · rename_i h3
        rw [if_pos h3] at hl
        simp only at hl
        omega
      · rename_i h3
        rw [if_neg h3] at hl
        exact beginFrom_done k1 (by rw [k2.cl]; omega) hl
    · rename_i h2
      rw [if_neg h2] at hl
      exact beginFrom_done h (by omega) hl
set_option maxHeartbeats 4000000 in
set_option maxRecDepth 100000 in
theorem cnf_CountModels.calls (a0_0 : Int) (A0_1 : Option Addr) (c0_1 : Nat) (l0_1 : List (List Int)) (r1 r2 : Int) (w : World) (hr0_1 : Kd.C (Kd.slice 3 (Kd.int .i64)) w A0_1 l0_1.length l0_1) (hc0_1 : l0_1.length ≤ c0_1) (h : cnf_CountModels.f a0_0 l0_1 = some (r1, r2)) :
    Calls Try.prog 25 #[.agg #[.int .i64 a0_0, .slice A0_1 l0_1.length c0_1]] w fun e w' => e = .returned (.tuple #[.int .i64 r1, .int .i64 r2]) ∧ Below w.heap.size w w' := by
  have hE : countModels a0_0 l0_1 = (r1, r2) := Option.some.inj h
  clear h
  have HE := Ak hE; clear hE
  have HR := Ak hr0_1
  have H0 := Ak ((St.start w).box_new 24 #[.int .i64 a0_0, .slice A0_1 l0_1.length c0_1])
  clear hr0_1
  have hu24 := Try.underlying24
  obtain ⟨e1, he1⟩ : ∃ e1 : Int, e1 = (checkFormula a0_0 l0_1).2 := ⟨_, rfl⟩
  obtain ⟨e2, he2⟩ : ∃ e2 : Int, e2 = if a0_0 ≤ 16 then 0 else 8 := ⟨_, rfl⟩
  obtain ⟨e3, he3⟩ : ∃ e3 : Int, e3 = if e1 = 0 then e2 else e1 := ⟨_, rfl⟩
  have E1 := Ak he1; have E2 := Ak he2; have E3 := Ak he3; clear he1 he2 he3
  go_enter Try.func25, Try.ntmps25
  go_wp2
  have n0_ := Ak H0.out.drew
  clear H0
  have H0 := n0_
  clear n0_
  refine start_ (n := 9) (S := fun w' => St w w' (box w.heap.size 24 #[.int .i64 a0_0, .slice A0_1 l0_1.length c0_1] :: [])) (ds := []) #[false, false, false, false, false, false, false, false, false] (by kernel_rfl) rfl rfl (H0.out) (fun hHeld => ?_)
  generalize World.drew _ = w_0 at H0 hHeld ⊢
  refine take_ (i := 0) (N := some 6) (v := ?_) (a' := ?_) #[true, false, false, false, false, false, false, false, false] rfl rfl (by kernel_rfl) (fun _ _ _ h => h) (Or.inl ⟨by rfl, ?_⟩) hHeld ?_ ?_
  rotate_left
  · intro w' hs
    have h0 := hs.box_cell (i := 0) rfl 0
    have h1 := hs.box_cell (i := 0) rfl 1
    simp only [List.getElem?_toArray, List.getElem?_cons_zero, List.getElem?_cons_succ] at h0 h1
    go_simp
    with_reducible rfl
  rotate_left
  · (try simp only [Act.put, La, Lb, Lc, i64_w, i32_w])
    rfl
  refine pure_ (i := 2) (N := some 8) (v := ?_) (a' := ?_) #[true, false, true, false, false, false, false, false, false] rfl rfl (by kernel_rfl) (fun _ _ _ h => h) (Or.inl ⟨by rfl, ?_⟩) ?_ ?_
  rotate_left
  · intro w'
    go_simp
    with_reducible rfl
  rotate_left
  · (try simp only [Act.put, La, Lb, Lc, i64_w, i32_w])
    rfl
  refine take_ (i := 3) (N := some 9) (v := ?_) (a' := ?_) #[true, false, true, true, false, false, false, false, false] rfl rfl (by kernel_rfl) (fun _ _ _ h => h) (Or.inl ⟨by rfl, ?_⟩) hHeld ?_ ?_
  rotate_left
  · intro w' hs
    have h0 := hs.box_cell (i := 0) rfl 0
    have h1 := hs.box_cell (i := 0) rfl 1
    simp only [List.getElem?_toArray, List.getElem?_cons_zero, List.getElem?_cons_succ] at h0 h1
    go_simp
    with_reducible rfl
  rotate_left
  · (try simp only [Act.put, La, Lb, Lc, i64_w, i32_w])
    rfl
  refine pure_ (i := 4) (N := some 10) (v := ?_) (a' := ?_) #[true, false, true, true, true, false, false, false, false] rfl rfl (by kernel_rfl) (fun _ _ _ h => h) (Or.inl ⟨by rfl, ?_⟩) ?_ ?_
  rotate_left
  · intro w'
    go_simp
    with_reducible rfl
  rotate_left
  · (try simp only [Act.put, La, Lb, Lc, i64_w, i32_w])
    rfl
  refine one_ (i := 1) (N := some 7) #[true, true, true, true, true, false, false, false, false] rfl rfl (by kernel_rfl) (by decide) (fun K hK => ?_)
  refine goes_ Try.func45 (by kernel_rfl) rfl ?args_2 (by rfl) rfl rfl ?hargs_2 ?main_2
  rotate_left 2
  with_reducible refine (cnf_formulaErr.calls a0_0 A0_1 c0_1 l0_1 e1 _ (Kd.C_below HR.out H0.out.below) hc0_1 (by rw [formulaErr_f, E1.out])).mono ?_
  case hargs_2 => ((try simp only [List.map_toArray, List.map_cons, List.map_nil]); first | done | rfl)
  rintro e w_1 ⟨rfl, hb⟩
  refine ⟨_, rfl, ?_⟩
  have n0_ := Ak (H0.out.mv hb)
  clear H0
  have H0 := n0_
  clear n0_
  clear hHeld
  (try clear hb)
  refine hK.out _ _ (H0.out) (fun hHeld => ?_)
  clear hK K
  refine norm_ (a' := ?_) ?_ ?_
  rotate_left
  · show Act.put _ (some 7) _ = _
    (try simp only [Act.put, La, Lb, Lc, i64_w, i32_w])
    rfl
  refine one_ (i := 5) (N := some 11) #[true, true, true, true, true, true, false, false, false] rfl rfl (by kernel_rfl) (by decide) (fun K hK => ?_)
  refine goes_ Try.func37 (by kernel_rfl) rfl ?args_4 (by rfl) rfl rfl ?hargs_4 ?main_4
  rotate_left 2
  with_reducible refine (cnf_unless.calls (decide (a0_0 ≤ 16)) 8 e2 _ (by rw [unless_dec, E2.out]; simp)).mono ?_
  case hargs_4 => ((try simp only [List.map_toArray, List.map_cons, List.map_nil]); first | done | rfl)
  rintro e w_3 ⟨rfl, hb⟩
  refine ⟨_, rfl, ?_⟩
  have n0_ := Ak (H0.out.mv hb.below)
  clear H0
  have H0 := n0_
  clear n0_
  clear hHeld
  (try clear hb)
  refine hK.out _ _ (H0.out) (fun hHeld => ?_)
  clear hK K
  refine norm_ (a' := ?_) ?_ ?_
  rotate_left
  · show Act.put _ (some 11) _ = _
    (try simp only [Act.put, La, Lb, Lc, i64_w, i32_w])
    rfl
  refine one_ (i := 6) (N := some 12) #[true, true, true, true, true, true, true, false, false] rfl rfl (by kernel_rfl) (by decide) (fun K hK => ?_)
  refine value_ (v := .slice (some ⟨w_3.heap.size, 0, none⟩) 2 2) (w1 := w_3.alloc (.cells #[.int .i64 e1, .int .i64 e2] 28)) (by rfl) rfl ?run_6 ?main_6
  · first | (go_simp; done) | (go_simp; rfl)
  have n0_ := Ak (H0.out.box_new 28 #[.int .i64 e1, .int .i64 e2])
  clear H0
  have H0 := n0_
  clear n0_
  clear hHeld
  (try clear hb)
  refine hK.out _ _ (H0.out.drop 0) (fun hHeld => ?_)
  clear hK K
  refine norm_ (a' := ?_) ?_ ?_
  rotate_left
  · show Act.put _ (some 12) _ = _
    (try simp only [Act.put, La, Lb, Lc, i64_w, i32_w])
    rfl
  generalize (w_3.alloc (.cells #[.int .i64 e1, .int .i64 e2] 28)) = w_5 at H0 hHeld ⊢
  refine one_ (i := 7) (N := some 13) #[true, true, true, true, true, true, true, true, false] rfl rfl (by kernel_rfl) (by decide) (fun K hK => ?_)
  refine goes_ Try.func36 (by kernel_rfl) rfl ?args_8 (by rfl) rfl rfl ?hargs_8 ?main_8
  rotate_left 2
  with_reducible refine (cnf_first.calls 3 _ 2 [e1, e2] e3 _ (C_of_block (k := .i64) (H0.out.box_at (i := 0) rfl).1 (by simp)) (by simp) (by rw [first2, E3.out])).mono ?_
  case hargs_8 => ((try simp only [List.map_toArray, List.map_cons, List.map_nil]); first | done | rfl)
  rintro e w_7 ⟨rfl, hb⟩
  refine ⟨_, rfl, ?_⟩
  have n0_ := Ak (H0.out.mv hb.below)
  clear H0
  have H0 := n0_
  clear n0_
  clear hHeld
  (try clear hb)
  refine hK.out _ _ (H0.out.drop 0) (fun hHeld => ?_)
  clear hK K
  refine norm_ (a' := ?_) ?_ ?_
  rotate_left
  · show Act.put _ (some 13) _ = _
    (try simp only [Act.put, La, Lb, Lc, i64_w, i32_w])
    rfl
  refine pure_ (i := 8) (N := some 4) (v := ?_) (a' := ?_) #[true, true, true, true, true, true, true, true, true] rfl rfl (by kernel_rfl) (fun _ _ _ h => h) (Or.inl ⟨by rfl, ?_⟩) ?_ ?_
  rotate_left
  · intro w'
    go_simp
    with_reducible rfl
  rotate_left
  · (try simp only [Act.put, La, Lb, Lc, i64_w, i32_w])
    rfl
  refine done_ (by kernel_rfl) ?_
  have H1 := Ak (H0.out.drop 0); clear H0 hHeld
  have hc0 := H1.out.box_cell (i := 0) rfl 0
  have hc1 := H1.out.box_cell (i := 0) rfl 1
  simp only [List.eraseIdx, List.getElem?_toArray, List.getElem?_cons_zero, List.getElem?_cons_succ] at hc0 hc1
  have hx := HE.out
  unfold countModels at hx
  rw [← E1.out] at hx
  by_cases he : e3 = 0
  · have he0 : (e3 != 0) = false := bne_eq_false_iff_eq.2 he
    have h1 : e1 = 0 := by
      have := E3.out; rw [he] at this
      by_cases h : e1 = 0
      · exact h
      · rw [if_neg h] at this; exact this.symm
    have h2 : a0_0 ≤ 16 := by
      have := E3.out; rw [he, if_pos h1, E2.out] at this
      by_cases h : a0_0 ≤ 16
      · exact h
      · rw [if_neg h] at this; cases this
    rw [if_pos h1, if_pos h2] at hx
    obtain ⟨g1, g2, g3, g4, g5⟩ := formula_sv (fuel := 0) (E1.out ▸ h1 : (checkFormula a0_0 l0_1).2 = 0)
    have HX := Ak hx
    have G1 := Ak g1
    have HBD := Ak (beginFrom_done (i := 0) (l := l0_1) g1 (Nat.le_of_eq (Nat.zero_add _)))
    clear hx g1
    go_wp2_with fail
    refine (newSolver51 a0_0 0 A0_1 c0_1 l0_1 _ (Kd.C_below HR.out H1.out.below) hc0_1 g2 g3 ⟨g4, g5⟩).mono ?_
    clear hc0 hc1
    rintro e w8 ⟨g, fx, rfl, hw0, hS, hfx⟩
    have hs0 : fx.Ok (newSv a0_0 l0_1 0).cl (newSv a0_0 l0_1 0).occ := hfx
    have hbd : (newSv a0_0 l0_1 0).begin.1 < 0 → (newSv a0_0 l0_1 0).begin.2.done = (newSv a0_0 l0_1 0).begin.2.trail.length := HBD.out
    have hvars : (newSv a0_0 l0_1 0).vars = a0_0 := rfl
    have hx := HX.out
    have G1 := G1.out
    generalize newSv a0_0 l0_1 0 = s0 at hS hs0 hbd hvars hx G1
    obtain ⟨k1, k2⟩ := Sv.begin_ok G1
    have HS := Ak hS; have HF := Ak hs0; have HO := Ak G1
    have HB1 := Ak H1.out.below
    subst hw0
    clear hS hs0 G1 hfx HBD HX H1
    go_wp2_with fail
    refine (begin55 s0 fx g _ [] HS.out HO.out HF.out).mono ?_
    rintro e w9 ⟨rfl, hS⟩
    generalize s0.begin = bs at hS hbd hx k1 k2
    obtain ⟨bi, s1⟩ := bs
    dsimp only at hS hbd hx k1 k2 ⊢
    have HX := Ak hx
    have HS1 := Ak hS; have K1 := Ak k1; have K2 := Ak k2
    clear hS HS hx k1 k2
    by_cases hbi : 0 ≤ bi
    · have hx := HX.out
      rw [if_pos hbi] at hx
      obtain ⟨rfl, rfl⟩ := Prod.mk.inj hx
      have HBL : Aside0 (Below fx.w0.heap.size fx.w0 w9) := by obtain ⟨_, _, _, h⟩ := HS1.out; exact ⟨h.below⟩
      clear hx HX hbd
      go_wp2
      go_ret2
      exact ⟨rfl, below_step HB1.out HBL.out⟩
    · have hx := HX.out
      rw [if_neg hbi] at hx
      obtain ⟨hx1, rfl⟩ := Prod.mk.inj hx
      have HBD := Ak (hbd (by omega)); have HX1 := Ak hx1
      have hfx2 : fx.Ok s1.cl s1.occ := by rw [K2.out.cl, K2.out.occ]; exact HF.out
      have HF2 := Ak hfx2
      have hv1 : s1.vars = a0_0 := K2.out.vars.trans hvars
      clear hx HX hbd hx1 hfx2
      go_wp2_with fail
      refine (count56 18 s1 1 fx g _ [] HS1.out K1.out HF2.out HBD.out ⟨by omega, by omega⟩ (by omega) (by omega)).mono ?_
      rintro e w10 ⟨rfl, hS⟩
      have HBL : Aside0 (Below fx.w0.heap.size fx.w0 w10) := by obtain ⟨_, _, _, h⟩ := hS; exact ⟨h.below⟩
      clear hS
      go_wp2
      go_ret2
      rw [← HX1.out]
      exact ⟨rfl, below_step HB1.out HBL.out⟩
  · have he0 : (e3 != 0) = true := bne_iff_ne.2 he
    have hx2 : (0, e3) = (r1, r2) := by
      rw [← hx]
      by_cases h1 : e1 = 0
      · by_cases h2 : a0_0 ≤ 16
        · exact absurd (by rw [E3.out, if_pos h1, E2.out, if_pos h2]) he
        · rw [if_pos h1, if_neg h2, E3.out, if_pos h1, E2.out, if_neg h2]
      · rw [if_neg h1, E3.out, if_neg h1]
    have HX := Ak hx2; clear hx hx2 he
    go_wp2
    go_ret2
    obtain ⟨h1, h2⟩ := Prod.mk.inj HX.out
    rw [← h1, ← h2]
    exact ⟨rfl, H1.out.below⟩
end Go.Proofs.Ytapbkoolddnjgaa.PA
