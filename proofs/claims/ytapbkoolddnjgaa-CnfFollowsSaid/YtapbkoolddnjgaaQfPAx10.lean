/- What the claim needs of PAx10: lemmas and contracts, cut by a program to what is used. -/
import Derived.Test.YtapbkoolddnjgaaQfPAx0
import Derived.Test.YtapbkoolddnjgaaQfPAx3
import Derived.Test.YtapbkoolddnjgaaQfPAx4
import Derived.Test.YtapbkoolddnjgaaQfPAx5
import Derived.Test.YtapbkoolddnjgaaQfPAx6
import Derived.Test.YtapbkoolddnjgaaQfPAx7
import Derived.Test.YtapbkoolddnjgaaQfPAx9
namespace Go.Proofs.Ytapbkoolddnjgaa.PA
open Go.RowKit Go.Proofs.YtapbkoolddnjgaaW.PrintWords Go.Proofs.YtapbkoolddnjgaaW.PrintLast Go.Proofs.YtapbkoolddnjgaaW.PrintMore Go.Proofs.Sl
attribute [local go_sem] max2_int min2_int max_two min_two max_three min_three max_four min_four
set_option linter.unusedVariables false
set_option linter.unusedSimpArgs false
def trySearch (f : Sv → Bool × Sv) (l : Int) (s : Sv) : Option Bool × Sv :=
  if s.fuel < s.steps + 1 then (some false, { s with steps := s.steps + 1, failed := true }) else
  if ((({ s with steps := s.steps + 1 } : Sv).assume l (-1)).propagate 1002).1 < 0 then
    (if (f ((({ s with steps := s.steps + 1 } : Sv).assume l (-1)).propagate 1002).2).1 = true ∨ (f ((({ s with steps := s.steps + 1 } : Sv).assume l (-1)).propagate 1002).2).2.failed = true then
      (some (f ((({ s with steps := s.steps + 1 } : Sv).assume l (-1)).propagate 1002).2).1, (f ((({ s with steps := s.steps + 1 } : Sv).assume l (-1)).propagate 1002).2).2)
    else (none, (f ((({ s with steps := s.steps + 1 } : Sv).assume l (-1)).propagate 1002).2).2.back s.trail.length))
  else (none, ((({ s with steps := s.steps + 1 } : Sv).assume l (-1)).propagate 1002).2.back s.trail.length)
def thenTry (r : Option Bool × Sv) (f : Sv → Bool × Sv) : Bool × Sv :=
  match r with
  | (some b, t) => (b, t)
  | (none, t) => f t
def Sv.search : Nat → Sv → Int → Bool × Sv
  | 0, s, _ => (false, s)
  | k + 1, s, v0 => if s.vars < s.nextV 1002 v0 then (true, s) else
      thenTry (trySearch (fun t => Sv.search k t (s.nextV 1002 v0 + 1)) (-(s.nextV 1002 v0)) s) fun t =>
      thenTry (trySearch (fun t => Sv.search k t (s.nextV 1002 v0 + 1)) (s.nextV 1002 v0) t) fun t => (false, t)
structure SRes (s : Sv) (r : Bool × Sv) : Prop where
  ok : r.2.Ok
  vars : r.2.vars = s.vars
  cl : r.2.cl = s.cl
  occ : r.2.occ = s.occ
  fuel : r.2.fuel = s.fuel
  back : r.1 = false → r.2.failed = false → ∃ x, r.2 = { s with steps := x } ∧ s.steps ≤ x ∧ x ≤ s.fuel
theorem Sv.Ok.steps {s : Sv} (h : s.Ok) (x : Int) (b : Bool) : ({ s with steps := x, failed := b } : Sv).Ok :=
  ⟨h.vars0, h.vars1, h.vals, h.unit, h.lits, h.clen, h.llen, h.same, h.few, h.done0, h.done1, h.tlits, h.occ, h.olen, h.det, h.nodup⟩
theorem back_steps (t : Sv) (x : Int) (n : Nat) : ({ t with steps := x } : Sv).back n = { t.back n with steps := x } := rfl
theorem try_spec {f : Sv → Bool × Sv} {s : Sv} {l : Int} (h : s.Ok) (hd : s.done = s.trail.length) (hl : l ≠ 0 ∧ -s.vars ≤ l ∧ l ≤ s.vars) (h0 : litVal s.vals l = 0) (hs : s.failed = false)
    (hf : ∀ t : Sv, t.Ok → t.done = t.trail.length → t.vars = s.vars → t.failed = false → t.steps ≤ t.fuel → SRes t (f t)) :
    SRes s (thenTry (trySearch f l s) fun t => (false, t)) ∧ ((trySearch f l s).1 = none → ∃ x, (trySearch f l s).2 = { s with steps := x } ∧ s.steps ≤ x ∧ x ≤ s.fuel) := by
  unfold trySearch
  split
  · refine ⟨⟨h.steps _ _, rfl, rfl, rfl, rfl, fun _ hb => ?_⟩, fun hn => by cases hn⟩
    exact absurd hb (by simp [thenTry])
  · rename_i hfu
    have h1 : ({ s with steps := s.steps + 1 } : Sv).Ok := h.steps _ _
    obtain ⟨t1, t2, t3, t4, t5⟩ := tried (s := ({ s with steps := s.steps + 1 } : Sv)) h1 hd hl h0
    generalize ((({ s with steps := s.steps + 1 } : Sv).assume l (-1)).propagate 1002) = P at t1 t2 t3 t4 t5
    obtain ⟨pi, ps⟩ := P
    dsimp only at t1 t2 t3 t4 t5 ⊢
    have e1 : ps.vars = s.vars := t2.vars
    have e2 : ps.failed = s.failed := t2.failed
    have e3 : ps.fuel = s.fuel := t2.fuel
    have e4 : ps.steps = s.steps + 1 := t2.steps
    have e5 : ps.cl = s.cl := t2.cl
    have e6 : ps.occ = s.occ := t2.occ
    split
    · rename_i hpi
      have hr := hf ps t1 (t5 hpi) e1 (e2.trans hs) (by omega)
      split
      · rename_i hor
        refine ⟨⟨hr.ok, hr.vars.trans e1, hr.cl.trans e5, hr.occ.trans e6, hr.fuel.trans e3, fun h1 h2 => ?_⟩, fun hn => by cases hn⟩
        have h1' : (f ps).1 = false := h1
        have h2' : (f ps).2.failed = false := h2
        rw [h1', h2'] at hor
        simp at hor
      · rename_i hor
        have h1' : (f ps).1 = false := by
          cases hh : (f ps).1
          · rfl
          · exact absurd (.inl hh) hor
        have h2' : (f ps).2.failed = false := by
          cases hh : (f ps).2.failed
          · rfl
          · exact absurd (.inr hh) hor
        obtain ⟨x, hx, hx1, hx2⟩ := hr.back h1' h2'
        have hb : (f ps).2.back s.trail.length = { s with steps := x } := by
          rw [hx, back_steps, t3]
        have key : ∃ x, (f ps).2.back s.trail.length = { s with steps := x } ∧ s.steps ≤ x ∧ x ≤ s.fuel := ⟨x, hb, by omega, by omega⟩
        refine ⟨⟨?_, ?_, ?_, ?_, ?_, fun _ _ => key⟩, fun _ => key⟩
        · show ((f ps).2.back s.trail.length).Ok
          rw [hb]; exact h.steps _ _
        · exact hr.vars.trans e1
        · exact hr.cl.trans e5
        · exact hr.occ.trans e6
        · exact hr.fuel.trans e3
    · have key : ∃ x, ps.back s.trail.length = { s with steps := x } ∧ s.steps ≤ x ∧ x ≤ s.fuel := ⟨s.steps + 1, t3, by omega, by omega⟩
      refine ⟨⟨?_, ?_, ?_, ?_, ?_, fun _ _ => key⟩, fun _ => key⟩
      · show (ps.back s.trail.length).Ok
        have t3' : ps.back s.trail.length = { s with steps := s.steps + 1 } := t3
        rw [t3']; exact h.steps _ _
      · exact e1
      · exact e5
      · exact e6
      · exact e3
theorem IsSv.box_new {fx : Fx} {w : World} {g : Nat} {s : Sv} {R : List Asn} (h : IsSv fx w g s R) (T : TypeId) (cs : Array Value) : IsSv fx (w.alloc (.cells cs T)) g s (box w.heap.size T cs :: R) := by
  obtain ⟨vV, tV, rV, h⟩ := h
  exact ⟨vV, tV, rV, (St.box_new h T cs).perm List.perm_middle.symm⟩
theorem IsSv.pop {fx : Fx} {w : World} {g : Nat} {s : Sv} {A : Asn} {R : List Asn} (h : IsSv fx w g s (A :: R)) : IsSv fx w g s R := by
  obtain ⟨vV, tV, rV, h⟩ := h
  exact ⟨vV, tV, rV, h.drop 5⟩
theorem SRes.trans_ {s : Sv} {x : Int} {r : Bool × Sv} (h : SRes ({ s with steps := x } : Sv) r) (h1 : s.steps ≤ x) : SRes s r := by
  refine ⟨h.ok, h.vars, h.cl, h.occ, h.fuel, fun a b => ?_⟩
  obtain ⟨y, hy, hy1, hy2⟩ := h.back a b
  exact ⟨y, hy, Int.le_trans h1 hy1, hy2⟩
theorem search_spec : ∀ {k : Nat} {s : Sv} {v : Int}, s.Ok → s.done = s.trail.length → s.failed = false → s.steps ≤ s.fuel → 1 ≤ v → v ≤ s.vars + 1 → s.vars + 1 - v < k → SRes s (s.search k v)
  | 0, s, v, h, hd, hf, hs, hv, hv2, hk => by omega
  | k + 1, s, v, h, hd, hf, hs, hv, hv2, hk => by
    unfold Sv.search
    obtain ⟨n1, n2, n3⟩ := nextV_spec (s := s) (k := 1002) hv hv2 (by have := h.vars1; omega)
    generalize s.nextV 1002 v = nv at n1 n2 n3
    split
    · exact ⟨h, rfl, rfl, rfl, rfl, fun h => by cases h⟩
    · rename_i hle
      obtain ⟨z1, z2⟩ := litVal_zero (by omega) (n3 (by omega))
      have hrec : ∀ t : Sv, t.Ok → t.done = t.trail.length → t.vars = s.vars → t.failed = false → t.steps ≤ t.fuel → SRes t (Sv.search k t (nv + 1)) := fun t a b c d e => search_spec a b d e (by omega) (by omega) (by omega)
      obtain ⟨a1, a2⟩ := try_spec (f := fun t => Sv.search k t (nv + 1)) h hd (l := -nv) ⟨by omega, by omega, by omega⟩ z2 hf hrec
      generalize trySearch (fun t => Sv.search k t (nv + 1)) (-nv) s = r at a1 a2
      obtain ⟨ro, rt⟩ := r
      cases ro with
      | some b => exact a1
      | none =>
        obtain ⟨x, hx, hx1, hx2⟩ := a2 rfl
        have hx' : rt = { s with steps := x } := hx
        subst hx'
        have hok2 : ({ s with steps := x } : Sv).Ok := h.steps _ _
        obtain ⟨b1, _⟩ := try_spec (f := fun t => Sv.search k t (nv + 1)) hok2 hd (l := nv) ⟨by omega, by show -s.vars ≤ nv; omega, by show nv ≤ s.vars; omega⟩ z1 hf hrec
        exact b1.trans_ hx1
set_option maxHeartbeats 8000000 in
set_option maxRecDepth 100000 in
theorem search70 : ∀ (k : Nat) (s : Sv) (v : Int) (fx : Fx) (g : Nat) (w : World) (R : List Asn) (h : IsSv fx w g s R) (hok : s.Ok) (hfx : fx.Ok s.cl s.occ) (hd : s.done = s.trail.length) (hf : s.failed = false) (hs : 0 ≤ s.steps ∧ s.steps ≤ s.fuel ∧ s.fuel ≤ 1000000000) (hv : 1 ≤ v ∧ v ≤ s.vars + 1) (hk : s.vars + 1 - v < k),
    Calls Try.prog 70 #[.pointer (some ⟨g, 0, none⟩), .int .i64 v] w fun e w' => e = .returned (.tuple #[.bool (s.search k v).1, .int .i64 0]) ∧ IsSv fx w' g (s.search k v).2 R := by
  intro k
  induction k with
  | zero => intro s v fx g w R h hok hfx hd hf hs hv hk; omega
  | succ k ih =>
  intro s v fx g w R h hok hfx hd hf hs hv hk
  have hnx := nextV_spec (s := s) (k := 1002) hv.1 hv.2 (by have := hok.vars1; omega)
  generalize hres : s.search (k + 1) v = res
  unfold Sv.search at hres
  generalize hnv : s.nextV 1002 v = nv at hnx hres
  have hu82 := Try.underlying82
  have HI := Ak ih; have HX := Ak hfx; have HOK := Ak hok; have HD := Ak hd; have HN := Ak hnx; have HRES := Ak hres; have HNV := Ak hnv
  have hvl := hok.vals; have hv1 := hok.vars1; have htl := hok.trail_le
  have H := Ak h
  obtain ⟨hva, hvb⟩ := hv
  have HFA := Ak hf; have HST := Ak hs
  clear ih hfx hok hd hnx hres hnv h hf hs
  go_enter Try.func70, Try.ntmps70
  go_wp2
  go_loopg [1] 1002 (fun kq v1 wr => ∃ u : Int, v1 = .int .i64 u ∧ 1 ≤ u ∧ u ≤ s.vars + 1 ∧ Aside0 (s.vars + 1 - u < kq) ∧ Aside0 (s.nextV kq u = nv) ∧ Aside0 (IsSv fx wr g s R))
  case atStart => exact ⟨v, rfl, hva, hvb, ⟨by omega⟩, HNV, H⟩
  case round =>
    obtain ⟨u, rfl, hu1, hu2, HQ, HE, H1⟩ := hrel
    obtain ⟨k1, rfl⟩ : ∃ m, gk = m + 1 := ⟨gk - 1, by have := HQ.out; omega⟩
    obtain ⟨vV, tV, rV, h1⟩ := H1.out
    simp only [SvL, List.cons_append, List.nil_append] at h1
    have c0 := h1.box_cell (i := 0) rfl 0
    have c3 := h1.box_cell (i := 0) rfl 3
    have c4 := h1.box_cell (i := 0) rfl 4
    obtain ⟨gv, cv, rfl⟩ := h1.row_form (i := 2) rfl (by omega)
    obtain ⟨At, ct, rfl, hct, _⟩ := h1.row_reads (i := 3) rfl
    simp only [List.getElem?_toArray, List.getElem?_cons_zero, List.getElem?_cons_succ] at c0 c3 c4
    have he := HE.out
    unfold Sv.nextV at he
    by_cases hle : u ≤ s.vars
    · rw [if_pos hle] at he
      have hcell := (h1.row_cell (i := 2) rfl u (by omega) (by omega)).1
      by_cases hz : rd s.vals u = 0
      · rw [if_pos hz] at he
        subst he
        rw [hz] at hcell
        clear h1
        go_upto_region 6 with fail
        clear c0 c3 c4 hcell
        go_upto_region 7 with fail
        have h3 := H1.out.box_new 108 #[.int .i64 0, .int .i64 0]
        have H3 := Ak h3
        clear h3 H1
        generalize wr.heap.size = p at H3 ⊢
        generalize wr.alloc _ = w3 at H3 ⊢
        have hre := HRES.out
        rw [if_neg (by omega)] at hre
        have HR2 := Ak hre
        have hz' : litVal s.vals u = 0 ∧ litVal s.vals (-u) = 0 := litVal_zero hu1 hz
        have HZ := Ak hz'
        have HK1 : Aside0 (s.knows (-u)) := ⟨by omega, by omega, by omega, by omega⟩
        have HK2 : Aside0 (s.knows u) := ⟨by omega, by omega, by omega, by omega⟩
        have hrl : s.reasons.length ≤ 1001 := by rw [HOK.out.same]; exact htl
        obtain ⟨hst1, hst2, hst3⟩ := HST.out
        clear hre HRES hz hz' HE HNV
        have x0 : ∀ w : World, (Instr.index 108 (.agg #[.int .i64 (-u), .int .i64 u]) (.int .i64 0)).run Try.prog w = .ok (.int .i64 (-u)) w := fun _ => by kernel_rfl
        have x1 : ∀ w : World, (Instr.index 108 (.agg #[.int .i64 (-u), .int .i64 u]) (.int .i64 1)).run Try.prog w = .ok (.int .i64 u) w := fun _ => by kernel_rfl
        go_wp2
        go_loopg [44] 2 (fun kq v44 wr => ∃ (j : Nat) (x a b : Int), v44 = .int .i64 (j : Int) ∧ s.steps ≤ x ∧ x ≤ s.fuel ∧ Aside0 (IsSv fx wr g ({ s with steps := x } : Sv) (box p 108 #[.int .i64 a, .int .i64 b] :: R)) ∧
          ((j = 0 ∧ kq = 2 ∧ Aside0 ((thenTry (trySearch (fun t => Sv.search k t (u + 1)) (-u) ({ s with steps := x } : Sv)) fun t => thenTry (trySearch (fun t => Sv.search k t (u + 1)) u t) fun t => (false, t)) = res)) ∨
           (j = 1 ∧ kq = 1 ∧ Aside0 ((thenTry (trySearch (fun t => Sv.search k t (u + 1)) u ({ s with steps := x } : Sv)) fun t => (false, t)) = res)) ∨
           (j = 2 ∧ kq = 0 ∧ Aside0 ((false, ({ s with steps := x } : Sv)) = res))))
        case atStart => exact ⟨0, s.steps, 0, 0, rfl, Int.le_refl _, hst2, H3, .inl ⟨rfl, rfl, HR2⟩⟩
        case round =>
          obtain ⟨j, x, a, b, rfl, hx1, hx2, H4, hj⟩ := hrel
          clear H3 HR2
          rcases hj with ⟨rfl, rfl, HR2⟩ | ⟨rfl, rfl, HR2⟩ | ⟨rfl, rfl, HR2⟩
          · have HK := HK1
            clear HK1 HK2
            obtain ⟨vV4, tV4, rV4, h4⟩ := H4.out
            simp only [SvL, List.cons_append, List.nil_append] at h4
            have hre := HR2.out
            generalize hcont : (fun t => thenTry (trySearch (fun t => Sv.search k t (u + 1)) u t) fun t => (false, t)) = cont at hre
            have HCT := Ak hcont
            clear hcont
            unfold trySearch at hre
            dsimp only at hre
            have hok1 : ({ s with steps := x + 1 } : Sv).Ok := HOK.out.steps _ _
            have hzl : litVal s.vals (-u) = 0 := HZ.out.2
            have hok2 := hok1.assume (n := -u) (r := -1) ⟨by omega, by show -s.vars ≤ _; omega, by show _ ≤ s.vars; omega⟩ hzl
            have htr := tried hok1 HD.out (n := -u) ⟨by omega, by show -s.vars ≤ _; omega, by show _ ≤ s.vars; omega⟩ hzl
            have HO1 := Ak hok1; have HO2 := Ak hok2; have HT := Ak htr
            have HR3 := Ak hre
            clear hre HR2 hok1 hok2 htr hzl
            have H5 := Ak h4
            have c8 := h4.box_cell (i := 0) rfl 8
            have f8 := h4.box_free (i := 0) rfl 8
            simp only [List.getElem?_toArray, List.getElem?_cons_zero, List.getElem?_cons_succ] at c8
            clear h4 H4
            go_upto_region 11 with fail
            have hs6 := H5.out.box_set (i := 0) rfl 8 (.int .i64 (x + 1))
            simp only [List.set, La, Lb, Lc] at hs6
            have H6 := Ak hs6
            clear hs6 H5 c8 f8
            generalize World.setCell wr _ _ = w6 at H6 ⊢
            have n0_ := Ak H6.out.drew
            clear H6
            have H6 := n0_
            clear n0_
            refine start_ (n := 9) (S := fun w' => St fx.w0 w' (box g 82 #[.int .i64 s.vars, .slice fx.Ac s.cl.length fx.cc, .map (some fx.b), vV4, tV4, rV4, .int .i64 s.done, .int .i64 s.fuel, .int .i64 (x + 1), .slice none 0 0, .bool false, .bool s.failed] :: fzA fx.wS fx.F0 :: row fx.w0.heap.size (Kd.int .i8) 96 vV4 s.vals :: row fx.w0.heap.size (Kd.int .i64) 3 tV4 s.trail :: row fx.w0.heap.size (Kd.int .i64) 3 rV4 s.reasons :: box p 108 #[.int .i64 a, .int .i64 b] :: R)) (ds := []) #[false, false, false, false, false, false, false, false, false] (by kernel_rfl) rfl rfl (H6.out) (fun hHeld => ?_)
            generalize World.drew _ = w_0 at H6 hHeld ⊢
            refine pure_ (i := 0) (N := some 55) (v := ?_) (a' := ?_) #[true, false, false, false, false, false, false, false, false] rfl rfl (by kernel_rfl) (fun _ _ _ h => h) (Or.inl ⟨by rfl, ?_⟩) ?_ ?_
            rotate_left
            · intro w'
              go_simp
              with_reducible rfl
            rotate_left
            · (try simp only [Act.put, La, Lb, Lc, i64_w, i32_w])
              rfl
            refine pure_ (i := 1) (N := some 56) (v := ?_) (a' := ?_) #[true, true, false, false, false, false, false, false, false] rfl rfl (by kernel_rfl) (fun _ _ _ h => h) (Or.inl ⟨by rfl, ?_⟩) ?_ ?_
            rotate_left
            · intro w'
              go_simp
              with_reducible rfl
            rotate_left
            · (try simp only [Act.put, La, Lb, Lc, i64_w, i32_w])
              rfl
            refine pure_ (i := 2) (N := some 57) (v := ?_) (a' := ?_) #[true, true, true, false, false, false, false, false, false] rfl rfl (by kernel_rfl) (fun _ _ _ h => h) (Or.inl ⟨by rfl, ?_⟩) ?_ ?_
            rotate_left
            · intro w'
              go_simp
              with_reducible rfl
            rotate_left
            · (try simp only [Act.put, La, Lb, Lc, i64_w, i32_w])
              rfl
            refine take_ (i := 3) (N := some 58) (v := ?_) (a' := ?_) #[true, true, true, true, false, false, false, false, false] rfl rfl (by kernel_rfl) (fun _ _ _ h => h) (Or.inl ⟨by rfl, ?_⟩) hHeld ?_ ?_
            rotate_left
            · intro w' hs
              have k7 := hs.box_cell (i := 0) rfl 7
              have k8 := hs.box_cell (i := 0) rfl 8
              simp only [List.getElem?_toArray, List.getElem?_cons_zero, List.getElem?_cons_succ] at k7 k8
              go_simp
              with_reducible rfl
            rotate_left
            · (try simp only [Act.put, La, Lb, Lc, i64_w, i32_w])
              rfl
            refine pure_ (i := 4) (N := some 59) (v := ?_) (a' := ?_) #[true, true, true, true, true, false, false, false, false] rfl rfl (by kernel_rfl) (fun _ _ _ h => h) (Or.inl ⟨by rfl, ?_⟩) ?_ ?_
            rotate_left
            · intro w'
              go_simp
              with_reducible rfl
            rotate_left
            · (try simp only [Act.put, La, Lb, Lc, i64_w, i32_w])
              rfl
            refine pure_ (i := 5) (N := some 60) (v := ?_) (a' := ?_) #[true, true, true, true, true, true, false, false, false] rfl rfl (by kernel_rfl) (fun _ _ _ h => h) (Or.inl ⟨by rfl, ?_⟩) ?_ ?_
            rotate_left
            · intro w'
              go_simp
              with_reducible rfl
            rotate_left
            · (try simp only [Act.put, La, Lb, Lc, i64_w, i32_w])
              rfl
            refine pure_ (i := 6) (N := some 61) (v := ?_) (a' := ?_) #[true, true, true, true, true, true, true, false, false] rfl rfl (by kernel_rfl) (fun _ _ _ h => h) (Or.inl ⟨by rfl, ?_⟩) ?_ ?_
            rotate_left
            · intro w'
              go_simp
              with_reducible rfl
            rotate_left
            · (try simp only [Act.put, La, Lb, Lc, i64_w, i32_w])
              rfl
            refine take_ (i := 7) (N := some 62) (v := ?_) (a' := ?_) #[true, true, true, true, true, true, true, true, false] rfl rfl (by kernel_rfl) (fun _ _ _ h => h) (Or.inl ⟨by rfl, ?_⟩) hHeld ?_ ?_
            rotate_left
            · intro w' hs
              have k7 := hs.box_cell (i := 0) rfl 7
              have k8 := hs.box_cell (i := 0) rfl 8
              simp only [List.getElem?_toArray, List.getElem?_cons_zero, List.getElem?_cons_succ] at k7 k8
              go_simp
              with_reducible rfl
            rotate_left
            · (try simp only [Act.put, La, Lb, Lc, i64_w, i32_w])
              rfl
            refine pure_ (i := 8) (N := some 63) (v := ?_) (a' := ?_) #[true, true, true, true, true, true, true, true, true] rfl rfl (by kernel_rfl) (fun _ _ _ h => h) (Or.inl ⟨by rfl, ?_⟩) ?_ ?_
            rotate_left
            · intro w'
              go_simp
              with_reducible rfl
            rotate_left
            · (try simp only [Act.put, La, Lb, Lc, i64_w, i32_w])
              rfl
            refine done_ (by kernel_rfl) ?_
            clear hHeld
            by_cases hfu : s.fuel < x + 1
            · have hre := HR3.out
              rw [if_pos hfu] at hre
              have hre2 : ((false, ({ s with steps := x + 1, failed := true } : Sv)) : Bool × Sv) = res := hre
              subst hre2
              have c11 := H6.out.box_cell (i := 0) rfl 11
              have f11 := H6.out.box_free (i := 0) rfl 11
              simp only [List.getElem?_toArray, List.getElem?_cons_zero, List.getElem?_cons_succ] at c11
              clear HR3 hre
              go_upto_region 13 with fail
              have hs7 := H6.out.box_set (i := 0) rfl 11 (.bool true)
              simp only [List.set, La, Lb, Lc] at hs7
              have H7 := Ak hs7
              clear hs7 H6 c11 f11
              generalize World.setCell _ _ _ = w7 at H7 ⊢
              go_wp2
              go_ret2
              exact ⟨rfl, _, _, _, H7.out.drop 5⟩
            · have hre := HR3.out
              rw [if_neg hfu] at hre
              have HR4 := Ak hre
              have h6 : IsSv fx _ g ({ s with steps := x + 1 } : Sv) (box p 108 #[.int .i64 a, .int .i64 b] :: R) := ⟨_, _, _, H6.out⟩
              have H7 := Ak h6
              have hfu2 : x + 1 ≤ s.fuel := by omega
              clear hre HR3 h6 H6
              go_wp2_with fail
              refine (assume77 ({ s with steps := x + 1 } : Sv) _ (-1) fx g _ _ H7.out HK.out (by show s.trail.length ≤ _; omega) (by show s.reasons.length ≤ _; omega)).mono ?_
              rintro e w5 ⟨rfl, h5⟩
              have H5 := Ak h5; clear h5 H7
              go_wp2_with fail
              refine (propagate76 _ fx g _ _ H5.out HO2.out HX.out).mono ?_
              rintro e w6 ⟨rfl, h6⟩
              obtain ⟨q1, q2, q3, q4, q5⟩ := HT.out
              have hre := HR4.out
              generalize Sv.propagate 1002 (({ s with steps := x + 1 } : Sv).assume (-u) (-1)) = P at h6 q1 q2 q3 q4 q5 hre
              obtain ⟨pi, ps⟩ := P
              dsimp only at h6 q1 q2 q3 q4 q5 hre ⊢
              have H6 := Ak h6; have Q1 := Ak q1; have Q2 := Ak q2; have Q3 := Ak q3; have Q4 := Ak q4
              have hps1 : ps.vars = s.vars := q2.vars
              have hps2 : ps.fuel = s.fuel := q2.fuel
              have hps3 : ps.steps = x + 1 := q2.steps
              have hps4 : ps.failed = false := q2.failed.trans HFA.out
              have hfx2 : fx.Ok ps.cl ps.occ := by rw [show ps.cl = s.cl from q2.cl, show ps.occ = s.occ from q2.occ]; exact HX.out
              have HX2 := Ak hfx2
              have HRE := Ak hre
              have Q5 := Ak q5
              clear h6 H5 HT HR4 hre hfx2 q1 q2 q3 q4 q5
              by_cases hpi : pi < 0
              · have hre := HRE.out
                rw [if_pos hpi] at hre
                have hr := search_spec (k := k) (v := u + 1) Q1.out (Q5.out hpi) hps4 (by omega) (by omega) (by omega) (by have := HN.out.1; omega)
                have HRE2 := Ak hre; have HR := Ak hr
                clear hre HRE hr
                go_wp2_with fail
                refine (HI.out ps (u + 1) fx g _ _ H6.out Q1.out HX2.out (Q5.out hpi) hps4 ⟨by omega, by omega, by omega⟩ ⟨by omega, by omega⟩ (by have := HN.out.1; omega)).mono ?_
                rintro e w7 ⟨rfl, h7⟩
                have hr := HR.out; have hre := HRE2.out
                dsimp only
                have hre' : (if (Sv.search k ps (u + 1)).1 = true ∨ (Sv.search k ps (u + 1)).2.failed = true then Sv.search k ps (u + 1) else cont ((Sv.search k ps (u + 1)).2.back s.trail.length)) = res := by
                  rw [← hre]
                  split <;> rename_i hor
                  · first | rfl | (rw [if_pos hor]; rfl)
                  · first | rfl | (rw [if_neg hor]; rfl)
                clear hre
                generalize Sv.search k ps (u + 1) = q at h7 hr hre' ⊢
                obtain ⟨qb, qs⟩ := q
                dsimp only at h7 hr hre' ⊢
                have H7 := Ak h7
                have hokq := hr.ok
                have hbk := hr.back
                dsimp only at hokq hbk
                have HQO := Ak hokq; have HBK := Ak hbk; have HRE3 := Ak hre'
                obtain ⟨vV7, tV7, rV7, h7'⟩ := h7
                simp only [SvL, List.cons_append, List.nil_append] at h7'
                have c11 := h7'.box_cell (i := 0) rfl 11
                simp only [List.getElem?_toArray, List.getElem?_cons_zero, List.getElem?_cons_succ] at c11
                clear h7' hr hre' hokq hbk HR HRE2 H6
                cases qb with
                | true =>
                  have hre := HRE3.out
                  rw [if_pos (.inl rfl)] at hre
                  have hre2 : (true, qs) = res := hre
                  subst hre2
                  clear hre HRE3
                  go_wp2
                  go_ret2
                  exact ⟨rfl, H7.out.pop⟩
                | false =>
                  cases hqf : qs.failed with
                  | true =>
                    rw [hqf] at c11
                    have hre := HRE3.out
                    rw [if_pos (.inr hqf)] at hre
                    have hre2 : (false, qs) = res := hre
                    subst hre2
                    clear hre HRE3
                    go_wp2
                    go_ret2
                    exact ⟨rfl, H7.out.pop⟩
                  | false =>
                    rw [hqf] at c11
                    have hre := HRE3.out
                    rw [if_neg (by rw [hqf]; simp)] at hre
                    obtain ⟨y, hy, hy1, hy2⟩ := HBK.out rfl hqf
                    have hqt : s.trail.length ≤ qs.trail.length := by rw [hy]; exact Q4.out
                    have hqb : qs.back s.trail.length = { s with steps := y } := by rw [hy, back_steps, show ps.back s.trail.length = _ from Q3.out]
                    have hre2 : cont (qs.back s.trail.length) = res := hre
                    rw [hqb, ← HCT.out] at hre2
                    have HRR := Ak hre2; have HQB := Ak hqb
                    clear hre HRE3 hre2 hqb hy
                    go_wp2_with fail
                    refine (back78 qs s.trail.length fx g _ _ H7.out HQO.out hqt).mono ?_
                    clear c11
                    rintro e w8 ⟨rfl, h8⟩
                    rw [HQB.out] at h8
                    have H8 := Ak h8; clear h8 H7
                    (obtain ⟨vV8, tV8, rV8, h8⟩ := H8.out)
                    (simp only [SvL, List.cons_append, List.nil_append] at h8)
                    have c11 := h8.box_cell (i := 0) rfl 11
                    have c5 := h8.box_cell (i := 5) rfl 0
                    have f5 := h8.box_free (i := 5) rfl 0
                    simp only [List.getElem?_toArray, List.getElem?_cons_zero, List.getElem?_cons_succ] at c11 c5
                    rw [HFA.out] at c11
                    have H9 := Ak h8
                    clear h8 H8
                    go_upto_region 25 with fail
                    have hs9 := H9.out.box_set (i := 5) rfl 0 (.int .i64 0)
                    simp only [List.set, La, Lb, Lc] at hs9
                    have H10 := Ak hs9
                    clear hs9 H9 c11 c5 f5
                    generalize World.setCell _ _ _ = w9 at H10 ⊢
                    have c10 := H10.out.box_cell (i := 0) rfl 10
                    simp only [List.getElem?_toArray, List.getElem?_cons_zero, List.getElem?_cons_succ] at c10
                    go_wp2
                    go_roundg 1
                    case measure => omega
                    case rel => exact ⟨1, y, _, _, by go_num, by omega, by omega, ⟨_, _, _, H10.out⟩, .inr (.inl ⟨rfl, rfl, HRR⟩)⟩
              · have hre := HRE.out
                rw [if_neg hpi] at hre
                have hqb : ps.back s.trail.length = { s with steps := x + 1 } := Q3.out
                have hre2 : cont (ps.back s.trail.length) = res := hre
                rw [hqb, ← HCT.out] at hre2
                have HRR := Ak hre2; have HQB := Ak hqb
                clear hre HRE hre2 hqb
                go_wp2_with fail
                refine (explained69 ps pi fx g _ _ H6.out Q1.out).mono ?_
                rintro e w7 ⟨rfl, h7⟩
                have H7 := Ak h7; clear h7 H6
                go_wp2_with fail
                refine (back78 ps s.trail.length fx g _ _ H7.out Q1.out Q4.out).mono ?_
                rintro e w8 ⟨rfl, h8⟩
                rw [HQB.out] at h8
                have H8 := Ak h8; clear h8 H7
                (obtain ⟨vV8, tV8, rV8, h8⟩ := H8.out)
                (simp only [SvL, List.cons_append, List.nil_append] at h8)
                have c11 := h8.box_cell (i := 0) rfl 11
                have c5 := h8.box_cell (i := 5) rfl 0
                have f5 := h8.box_free (i := 5) rfl 0
                simp only [List.getElem?_toArray, List.getElem?_cons_zero, List.getElem?_cons_succ] at c11 c5
                rw [HFA.out] at c11
                have H9 := Ak h8
                clear h8 H8
                go_upto_region 25 with fail
                have hs9 := H9.out.box_set (i := 5) rfl 0 (.int .i64 pi)
                simp only [List.set, La, Lb, Lc] at hs9
                have H10 := Ak hs9
                clear hs9 H9 c11 c5 f5
                generalize World.setCell _ _ _ = w9 at H10 ⊢
                have c10 := H10.out.box_cell (i := 0) rfl 10
                simp only [List.getElem?_toArray, List.getElem?_cons_zero, List.getElem?_cons_succ] at c10
                go_wp2
                go_roundg 1
                case measure => omega
                case rel => exact ⟨1, (x + 1), _, _, by go_num, by omega, by omega, ⟨_, _, _, H10.out⟩, .inr (.inl ⟨rfl, rfl, HRR⟩)⟩
          · have HK := HK2
            clear HK1 HK2
            obtain ⟨vV4, tV4, rV4, h4⟩ := H4.out
            simp only [SvL, List.cons_append, List.nil_append] at h4
            have hre := HR2.out
            generalize hcont : (fun t : Sv => ((false, t) : Bool × Sv)) = cont at hre
            have HCT := Ak hcont
            clear hcont
            unfold trySearch at hre
            dsimp only at hre
            have hok1 : ({ s with steps := x + 1 } : Sv).Ok := HOK.out.steps _ _
            have hzl : litVal s.vals (u) = 0 := HZ.out.1
            have hok2 := hok1.assume (n := u) (r := -1) ⟨by omega, by show -s.vars ≤ _; omega, by show _ ≤ s.vars; omega⟩ hzl
            have htr := tried hok1 HD.out (n := u) ⟨by omega, by show -s.vars ≤ _; omega, by show _ ≤ s.vars; omega⟩ hzl
            have HO1 := Ak hok1; have HO2 := Ak hok2; have HT := Ak htr
            have HR3 := Ak hre
            clear hre HR2 hok1 hok2 htr hzl
            have H5 := Ak h4
            have c8 := h4.box_cell (i := 0) rfl 8
            have f8 := h4.box_free (i := 0) rfl 8
            simp only [List.getElem?_toArray, List.getElem?_cons_zero, List.getElem?_cons_succ] at c8
            clear h4 H4
            go_upto_region 11 with fail
            have hs6 := H5.out.box_set (i := 0) rfl 8 (.int .i64 (x + 1))
            simp only [List.set, La, Lb, Lc] at hs6
            have H6 := Ak hs6
            clear hs6 H5 c8 f8
            generalize World.setCell wr _ _ = w6 at H6 ⊢
            have n0_ := Ak H6.out.drew
            clear H6
            have H6 := n0_
            clear n0_
            refine start_ (n := 9) (S := fun w' => St fx.w0 w' (box g 82 #[.int .i64 s.vars, .slice fx.Ac s.cl.length fx.cc, .map (some fx.b), vV4, tV4, rV4, .int .i64 s.done, .int .i64 s.fuel, .int .i64 (x + 1), .slice none 0 0, .bool false, .bool s.failed] :: fzA fx.wS fx.F0 :: row fx.w0.heap.size (Kd.int .i8) 96 vV4 s.vals :: row fx.w0.heap.size (Kd.int .i64) 3 tV4 s.trail :: row fx.w0.heap.size (Kd.int .i64) 3 rV4 s.reasons :: box p 108 #[.int .i64 a, .int .i64 b] :: R)) (ds := []) #[false, false, false, false, false, false, false, false, false] (by kernel_rfl) rfl rfl (H6.out) (fun hHeld => ?_)
            generalize World.drew _ = w_1 at H6 hHeld ⊢
            refine pure_ (i := 0) (N := some 55) (v := ?_) (a' := ?_) #[true, false, false, false, false, false, false, false, false] rfl rfl (by kernel_rfl) (fun _ _ _ h => h) (Or.inl ⟨by rfl, ?_⟩) ?_ ?_
            rotate_left
            · intro w'
              go_simp
              with_reducible rfl
            rotate_left
            · (try simp only [Act.put, La, Lb, Lc, i64_w, i32_w])
              rfl
            refine pure_ (i := 1) (N := some 56) (v := ?_) (a' := ?_) #[true, true, false, false, false, false, false, false, false] rfl rfl (by kernel_rfl) (fun _ _ _ h => h) (Or.inl ⟨by rfl, ?_⟩) ?_ ?_
            rotate_left
            · intro w'
              go_simp
              with_reducible rfl
            rotate_left
            · (try simp only [Act.put, La, Lb, Lc, i64_w, i32_w])
              rfl
            refine pure_ (i := 2) (N := some 57) (v := ?_) (a' := ?_) #[true, true, true, false, false, false, false, false, false] rfl rfl (by kernel_rfl) (fun _ _ _ h => h) (Or.inl ⟨by rfl, ?_⟩) ?_ ?_
            rotate_left
            · intro w'
              go_simp
              with_reducible rfl
            rotate_left
            · (try simp only [Act.put, La, Lb, Lc, i64_w, i32_w])
              rfl
            refine take_ (i := 3) (N := some 58) (v := ?_) (a' := ?_) #[true, true, true, true, false, false, false, false, false] rfl rfl (by kernel_rfl) (fun _ _ _ h => h) (Or.inl ⟨by rfl, ?_⟩) hHeld ?_ ?_
            rotate_left
            · intro w' hs
              have k7 := hs.box_cell (i := 0) rfl 7
              have k8 := hs.box_cell (i := 0) rfl 8
              simp only [List.getElem?_toArray, List.getElem?_cons_zero, List.getElem?_cons_succ] at k7 k8
              go_simp
              with_reducible rfl
            rotate_left
            · (try simp only [Act.put, La, Lb, Lc, i64_w, i32_w])
              rfl
            refine pure_ (i := 4) (N := some 59) (v := ?_) (a' := ?_) #[true, true, true, true, true, false, false, false, false] rfl rfl (by kernel_rfl) (fun _ _ _ h => h) (Or.inl ⟨by rfl, ?_⟩) ?_ ?_
            rotate_left
            · intro w'
              go_simp
              with_reducible rfl
            rotate_left
            · (try simp only [Act.put, La, Lb, Lc, i64_w, i32_w])
              rfl
            refine pure_ (i := 5) (N := some 60) (v := ?_) (a' := ?_) #[true, true, true, true, true, true, false, false, false] rfl rfl (by kernel_rfl) (fun _ _ _ h => h) (Or.inl ⟨by rfl, ?_⟩) ?_ ?_
            rotate_left
            · intro w'
              go_simp
              with_reducible rfl
            rotate_left
            · (try simp only [Act.put, La, Lb, Lc, i64_w, i32_w])
              rfl
            refine pure_ (i := 6) (N := some 61) (v := ?_) (a' := ?_) #[true, true, true, true, true, true, true, false, false] rfl rfl (by kernel_rfl) (fun _ _ _ h => h) (Or.inl ⟨by rfl, ?_⟩) ?_ ?_
            rotate_left
            · intro w'
              go_simp
              with_reducible rfl
            rotate_left
            · (try simp only [Act.put, La, Lb, Lc, i64_w, i32_w])
              rfl
            refine take_ (i := 7) (N := some 62) (v := ?_) (a' := ?_) #[true, true, true, true, true, true, true, true, false] rfl rfl (by kernel_rfl) (fun _ _ _ h => h) (Or.inl ⟨by rfl, ?_⟩) hHeld ?_ ?_
            rotate_left
            · intro w' hs
              have k7 := hs.box_cell (i := 0) rfl 7
              have k8 := hs.box_cell (i := 0) rfl 8
              simp only [List.getElem?_toArray, List.getElem?_cons_zero, List.getElem?_cons_succ] at k7 k8
              go_simp
              with_reducible rfl
            rotate_left
            · (try simp only [Act.put, La, Lb, Lc, i64_w, i32_w])
              rfl
            refine pure_ (i := 8) (N := some 63) (v := ?_) (a' := ?_) #[true, true, true, true, true, true, true, true, true] rfl rfl (by kernel_rfl) (fun _ _ _ h => h) (Or.inl ⟨by rfl, ?_⟩) ?_ ?_
            rotate_left
            · intro w'
              go_simp
              with_reducible rfl
            rotate_left
            · (try simp only [Act.put, La, Lb, Lc, i64_w, i32_w])
              rfl
            refine done_ (by kernel_rfl) ?_
            clear hHeld
            by_cases hfu : s.fuel < x + 1
            · have hre := HR3.out
              rw [if_pos hfu] at hre
              have hre2 : ((false, ({ s with steps := x + 1, failed := true } : Sv)) : Bool × Sv) = res := hre
              subst hre2
              have c11 := H6.out.box_cell (i := 0) rfl 11
              have f11 := H6.out.box_free (i := 0) rfl 11
              simp only [List.getElem?_toArray, List.getElem?_cons_zero, List.getElem?_cons_succ] at c11
              clear HR3 hre
              go_upto_region 13 with fail
              have hs7 := H6.out.box_set (i := 0) rfl 11 (.bool true)
              simp only [List.set, La, Lb, Lc] at hs7
              have H7 := Ak hs7
              clear hs7 H6 c11 f11
              generalize World.setCell _ _ _ = w7 at H7 ⊢
              go_wp2
              go_ret2
              exact ⟨rfl, _, _, _, H7.out.drop 5⟩
            · have hre := HR3.out
              rw [if_neg hfu] at hre
              have HR4 := Ak hre
              have h6 : IsSv fx _ g ({ s with steps := x + 1 } : Sv) (box p 108 #[.int .i64 a, .int .i64 b] :: R) := ⟨_, _, _, H6.out⟩
              have H7 := Ak h6
              have hfu2 : x + 1 ≤ s.fuel := by omega
              clear hre HR3 h6 H6
              go_wp2_with fail
              refine (assume77 ({ s with steps := x + 1 } : Sv) _ (-1) fx g _ _ H7.out HK.out (by show s.trail.length ≤ _; omega) (by show s.reasons.length ≤ _; omega)).mono ?_
              rintro e w5 ⟨rfl, h5⟩
              have H5 := Ak h5; clear h5 H7
              go_wp2_with fail
              refine (propagate76 _ fx g _ _ H5.out HO2.out HX.out).mono ?_
              rintro e w6 ⟨rfl, h6⟩
              obtain ⟨q1, q2, q3, q4, q5⟩ := HT.out
              have hre := HR4.out
              generalize Sv.propagate 1002 (({ s with steps := x + 1 } : Sv).assume (u) (-1)) = P at h6 q1 q2 q3 q4 q5 hre
              obtain ⟨pi, ps⟩ := P
              dsimp only at h6 q1 q2 q3 q4 q5 hre ⊢
              have H6 := Ak h6; have Q1 := Ak q1; have Q2 := Ak q2; have Q3 := Ak q3; have Q4 := Ak q4
              have hps1 : ps.vars = s.vars := q2.vars
              have hps2 : ps.fuel = s.fuel := q2.fuel
              have hps3 : ps.steps = x + 1 := q2.steps
              have hps4 : ps.failed = false := q2.failed.trans HFA.out
              have hfx2 : fx.Ok ps.cl ps.occ := by rw [show ps.cl = s.cl from q2.cl, show ps.occ = s.occ from q2.occ]; exact HX.out
              have HX2 := Ak hfx2
              have HRE := Ak hre
              have Q5 := Ak q5
              clear h6 H5 HT HR4 hre hfx2 q1 q2 q3 q4 q5
              by_cases hpi : pi < 0
              · have hre := HRE.out
                rw [if_pos hpi] at hre
                have hr := search_spec (k := k) (v := u + 1) Q1.out (Q5.out hpi) hps4 (by omega) (by omega) (by omega) (by have := HN.out.1; omega)
                have HRE2 := Ak hre; have HR := Ak hr
                clear hre HRE hr
                go_wp2_with fail
                refine (HI.out ps (u + 1) fx g _ _ H6.out Q1.out HX2.out (Q5.out hpi) hps4 ⟨by omega, by omega, by omega⟩ ⟨by omega, by omega⟩ (by have := HN.out.1; omega)).mono ?_
                rintro e w7 ⟨rfl, h7⟩
                have hr := HR.out; have hre := HRE2.out
                dsimp only
                have hre' : (if (Sv.search k ps (u + 1)).1 = true ∨ (Sv.search k ps (u + 1)).2.failed = true then Sv.search k ps (u + 1) else cont ((Sv.search k ps (u + 1)).2.back s.trail.length)) = res := by
                  rw [← hre]
                  split <;> rename_i hor
                  · first | rfl | (rw [if_pos hor]; rfl)
                  · first | rfl | (rw [if_neg hor]; rfl)
                clear hre
                generalize Sv.search k ps (u + 1) = q at h7 hr hre' ⊢
                obtain ⟨qb, qs⟩ := q
                dsimp only at h7 hr hre' ⊢
                have H7 := Ak h7
                have hokq := hr.ok
                have hbk := hr.back
                dsimp only at hokq hbk
                have HQO := Ak hokq; have HBK := Ak hbk; have HRE3 := Ak hre'
                obtain ⟨vV7, tV7, rV7, h7'⟩ := h7
                simp only [SvL, List.cons_append, List.nil_append] at h7'
                have c11 := h7'.box_cell (i := 0) rfl 11
                simp only [List.getElem?_toArray, List.getElem?_cons_zero, List.getElem?_cons_succ] at c11
                clear h7' hr hre' hokq hbk HR HRE2 H6
                cases qb with
                | true =>
                  have hre := HRE3.out
                  rw [if_pos (.inl rfl)] at hre
                  have hre2 : (true, qs) = res := hre
                  subst hre2
                  clear hre HRE3
                  go_wp2
                  go_ret2
                  exact ⟨rfl, H7.out.pop⟩
                | false =>
                  cases hqf : qs.failed with
                  | true =>
                    rw [hqf] at c11
                    have hre := HRE3.out
                    rw [if_pos (.inr hqf)] at hre
                    have hre2 : (false, qs) = res := hre
                    subst hre2
                    clear hre HRE3
                    go_wp2
                    go_ret2
                    exact ⟨rfl, H7.out.pop⟩
                  | false =>
                    rw [hqf] at c11
                    have hre := HRE3.out
                    rw [if_neg (by rw [hqf]; simp)] at hre
                    obtain ⟨y, hy, hy1, hy2⟩ := HBK.out rfl hqf
                    have hqt : s.trail.length ≤ qs.trail.length := by rw [hy]; exact Q4.out
                    have hqb : qs.back s.trail.length = { s with steps := y } := by rw [hy, back_steps, show ps.back s.trail.length = _ from Q3.out]
                    have hre2 : cont (qs.back s.trail.length) = res := hre
                    rw [hqb, ← HCT.out] at hre2
                    have HRR := Ak hre2; have HQB := Ak hqb
                    clear hre HRE3 hre2 hqb hy
                    go_wp2_with fail
                    refine (back78 qs s.trail.length fx g _ _ H7.out HQO.out hqt).mono ?_
                    clear c11
                    rintro e w8 ⟨rfl, h8⟩
                    rw [HQB.out] at h8
                    have H8 := Ak h8; clear h8 H7
                    (obtain ⟨vV8, tV8, rV8, h8⟩ := H8.out)
                    (simp only [SvL, List.cons_append, List.nil_append] at h8)
                    have c11 := h8.box_cell (i := 0) rfl 11
                    have c5 := h8.box_cell (i := 5) rfl 1
                    have f5 := h8.box_free (i := 5) rfl 1
                    simp only [List.getElem?_toArray, List.getElem?_cons_zero, List.getElem?_cons_succ] at c11 c5
                    rw [HFA.out] at c11
                    have H9 := Ak h8
                    clear h8 H8
                    go_upto_region 25 with fail
                    have hs9 := H9.out.box_set (i := 5) rfl 1 (.int .i64 0)
                    simp only [List.set, La, Lb, Lc] at hs9
                    have H10 := Ak hs9
                    clear hs9 H9 c11 c5 f5
                    generalize World.setCell _ _ _ = w9 at H10 ⊢
                    have c10 := H10.out.box_cell (i := 0) rfl 10
                    simp only [List.getElem?_toArray, List.getElem?_cons_zero, List.getElem?_cons_succ] at c10
                    go_wp2
                    go_roundg 0
                    case measure => omega
                    case rel => exact ⟨2, y, _, _, by go_num, by omega, by omega, ⟨_, _, _, H10.out⟩, .inr (.inr ⟨rfl, rfl, HRR⟩)⟩
              · have hre := HRE.out
                rw [if_neg hpi] at hre
                have hqb : ps.back s.trail.length = { s with steps := x + 1 } := Q3.out
                have hre2 : cont (ps.back s.trail.length) = res := hre
                rw [hqb, ← HCT.out] at hre2
                have HRR := Ak hre2; have HQB := Ak hqb
                clear hre HRE hre2 hqb
                go_wp2_with fail
                refine (explained69 ps pi fx g _ _ H6.out Q1.out).mono ?_
                rintro e w7 ⟨rfl, h7⟩
                have H7 := Ak h7; clear h7 H6
                go_wp2_with fail
                refine (back78 ps s.trail.length fx g _ _ H7.out Q1.out Q4.out).mono ?_
                rintro e w8 ⟨rfl, h8⟩
                rw [HQB.out] at h8
                have H8 := Ak h8; clear h8 H7
                (obtain ⟨vV8, tV8, rV8, h8⟩ := H8.out)
                (simp only [SvL, List.cons_append, List.nil_append] at h8)
                have c11 := h8.box_cell (i := 0) rfl 11
                have c5 := h8.box_cell (i := 5) rfl 1
                have f5 := h8.box_free (i := 5) rfl 1
                simp only [List.getElem?_toArray, List.getElem?_cons_zero, List.getElem?_cons_succ] at c11 c5
                rw [HFA.out] at c11
                have H9 := Ak h8
                clear h8 H8
                go_upto_region 25 with fail
                have hs9 := H9.out.box_set (i := 5) rfl 1 (.int .i64 pi)
                simp only [List.set, La, Lb, Lc] at hs9
                have H10 := Ak hs9
                clear hs9 H9 c11 c5 f5
                generalize World.setCell _ _ _ = w9 at H10 ⊢
                have c10 := H10.out.box_cell (i := 0) rfl 10
                simp only [List.getElem?_toArray, List.getElem?_cons_zero, List.getElem?_cons_succ] at c10
                go_wp2
                go_roundg 0
                case measure => omega
                case rel => exact ⟨2, (x + 1), _, _, by go_num, by omega, by omega, ⟨_, _, _, H10.out⟩, .inr (.inr ⟨rfl, rfl, HRR⟩)⟩
          · have hre2 : ((false, ({ s with steps := x } : Sv)) : Bool × Sv) = res := HR2.out
            subst hre2
            obtain ⟨vV4, tV4, rV4, h4⟩ := H4.out
            simp only [SvL, List.cons_append, List.nil_append] at h4
            have c10 := h4.box_cell (i := 0) rfl 10
            simp only [List.getElem?_toArray, List.getElem?_cons_zero, List.getElem?_cons_succ] at c10
            clear h4 HR2
            go_wp2
            go_ret2
            exact ⟨rfl, H4.out.pop⟩
      · rw [if_neg hz] at he
        have HE2 := Ak he
        have hz0 : (rd s.vals u != 0) = true := bne_iff_ne.2 hz
        clear he HE
        go_wp2
        go_roundg k1
        case measure => omega
        case rel => exact ⟨u + 1, by go_num, by omega, by omega, ⟨by have := HQ.out; omega⟩, HE2, H1⟩
    · rw [if_neg hle] at he
      subst he
      have hre := HRES.out
      rw [if_pos (by omega)] at hre
      subst hre
      clear HE
      go_wp2
      go_ret2
      exact ⟨rfl, H1.out⟩
def Sv.solve (s : Sv) : Bool × Sv := if 0 ≤ s.begin.1 then (false, s.begin.2) else s.begin.2.search 1002 1
set_option maxHeartbeats 4000000 in
set_option maxRecDepth 100000 in
theorem solve52 (s : Sv) (fx : Fx) (g : Nat) (w : World) (R : List Asn) (h : IsSv fx w g s R) (hok : s.Ok) (hfx : fx.Ok s.cl s.occ) (hf : s.failed = false) (hs : 0 ≤ s.steps ∧ s.steps ≤ s.fuel ∧ s.fuel ≤ 1000000000) :
    Calls Try.prog 52 #[.pointer (some ⟨g, 0, none⟩)] w fun e w' => ∃ c, e = .returned (.tuple #[.bool s.solve.1, .int .i64 c]) ∧ IsSv fx w' g s.solve.2 R := by
  generalize hres : s.solve = res
  unfold Sv.solve at hres
  have HRES := Ak hres
  have H := Ak h; have HOK := Ak hok; have HX := Ak hfx; have HF := Ak hf; have HS := Ak hs
  clear hres h hok hfx hf hs
  go_enter Try.func52, Try.ntmps52
  go_wp2_with fail
  refine (begin55 s fx g _ R H.out HOK.out HX.out).mono ?_
  rintro e w1 ⟨rfl, h1⟩
  obtain ⟨k1, k2⟩ := Sv.begin_ok HOK.out
  have hbd : s.begin.1 < 0 → s.begin.2.done = s.begin.2.trail.length := fun hl => beginFrom_done HOK.out (by omega) hl
  have hre := HRES.out
  dsimp only
  generalize s.begin = bs at h1 k1 k2 hbd hre ⊢
  obtain ⟨bi, s1⟩ := bs
  dsimp only at h1 k1 k2 hbd hre ⊢
  have H1 := Ak h1; have K1 := Ak k1; have K2 := Ak k2; have HRE := Ak hre; have HBD := Ak hbd
  clear h1 k1 k2 hre hbd HRES H
  by_cases hbi : 0 ≤ bi
  · have hre := HRE.out
    rw [if_pos hbi] at hre
    subst hre
    clear HRE
    go_wp2_with fail
    refine (explained69 s1 bi fx g _ R H1.out K1.out).mono ?_
    rintro e w2 ⟨rfl, h2⟩
    have H2 := Ak h2; clear h2 H1
    go_wp2
    go_ret2
    first | exact ⟨⟨bi, rfl⟩, H2.out⟩ | exact ⟨bi, rfl, H2.out⟩
  · have hre := HRE.out
    rw [if_neg hbi] at hre
    subst hre
    clear HRE
    have hfx2 : fx.Ok s1.cl s1.occ := by rw [K2.out.cl, K2.out.occ]; exact HX.out
    have HX2 := Ak hfx2; clear hfx2
    have hv1 := K1.out.vars1
    have hv0 := K1.out.vars0
    go_wp2_with fail
    refine (search70 1002 s1 1 fx g _ R H1.out K1.out HX2.out (HBD.out (by omega)) (K2.out.failed.trans HF.out) (by rw [K2.out.steps, K2.out.fuel]; exact HS.out) ⟨by omega, by omega⟩ (by omega)).mono ?_
    rintro e w2 ⟨rfl, h2⟩
    have H2 := Ak h2; clear h2 H1
    go_wp2
    go_ret2
    first | exact ⟨⟨0, rfl⟩, H2.out⟩ | exact ⟨0, rfl, H2.out⟩
end Go.Proofs.Ytapbkoolddnjgaa.PA
