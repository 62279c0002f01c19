/- What the claim needs of PAx24: lemmas and contracts, cut by a program to what is used. -/
import Derived.Test.YtapbkoolddnjgaaQfPAx0
import Derived.Test.YtapbkoolddnjgaaQfPAx2
import Derived.Test.YtapbkoolddnjgaaQfPAx11
import Derived.Test.YtapbkoolddnjgaaQfPAx13
import Derived.Test.YtapbkoolddnjgaaQfPAx22
import Derived.Test.YtapbkoolddnjgaaQfPAx23
namespace Go.Proofs.Ytapbkoolddnjgaa.PA
open Go.RowKit Go.Proofs.YtapbkoolddnjgaaW.PrintWords Go.Proofs.YtapbkoolddnjgaaW.PrintLast Go.Proofs.YtapbkoolddnjgaaW.PrintMore Go.Proofs.Sl
attribute [local go_sem] max2_int min2_int max_two min_two max_three min_three max_four min_four
set_option linter.unusedVariables false
set_option linter.unusedSimpArgs false
def openFrom (values : List Int) (V : Int) : Nat → Int → Int
  | 0, v => v
  | k + 1, v => if v ≤ V then (if rd values v = 0 then v else openFrom values V k (v + 1)) else v
theorem openFrom_spec {values : List Int} {V : Int} : ∀ {k : Nat} {v : Int}, 1 ≤ v → v ≤ V + 1 → V + 1 - v < k → v ≤ openFrom values V k v ∧ openFrom values V k v ≤ V + 1 ∧ (openFrom values V k v ≤ V → rd values (openFrom values V k v) = 0) ∧ (∀ i : Int, v ≤ i → i < openFrom values V k v → rd values i ≠ 0)
  | 0, v, h1, h2, h3 => by omega
  | k + 1, v, h1, h2, h3 => by
    unfold openFrom
    by_cases hv : v ≤ V
    · rw [if_pos hv]
      by_cases hz : rd values v = 0
      · rw [if_pos hz]
        exact ⟨Int.le_refl _, h2, fun _ => hz, fun i a b => by omega⟩
      · rw [if_neg hz]
        obtain ⟨a1, a2, a3, a4⟩ := openFrom_spec (values := values) (V := V) (k := k) (v := v + 1) (by omega) (by omega) (by omega)
        refine ⟨by omega, a2, a3, fun i b1 b2 => ?_⟩
        by_cases e : i = v
        · rw [e]; exact hz
        · exact a4 i (by omega) b2
    · rw [if_neg hv]
      exact ⟨Int.le_refl _, h2, fun h => absurd h hv, fun i a b => by omega⟩
def signs (f : Int → Int → Option (Option (List Int) × Int)) (v fuel : Int) : Nat → Int → Int → Option (Option (List Int) × Int)
  | 0, _, steps => some (none, steps)
  | r + 1, sign, steps => if wrap64 (steps + 1) > fuel then some (none, wrap64 (steps + 1)) else
      (f (wrap64 (sign * v)) (wrap64 (steps + 1))).bind fun x => if x.1.isSome = true ∨ x.2 > fuel then some x else signs f v fuel r (sign + 2) x.2
def refSearch : Nat → Int → List (List Int) → List Int → Int → Int → Option (Option (List Int) × Int)
  | 0, _, _, _, _, _ => none
  | k + 1, V, L, decided, steps, fuel =>
    if decided.length ≤ 100000 then
    (ratchetref03_Propagated.f k V L decided).bind fun x =>
    if x.2 ≠ -1 then some (none, steps) else
    if x.1.length ≤ 100000 then
    (ratchetref03_given.f k V L (decided ++ x.1)).bind fun values =>
    if (values.length : Int) = V + 1 then
    (if V < openFrom values V 1002 1 then some (some (modelOf values V), steps) else
      signs (fun lit steps => refSearch k V L (decided ++ [lit]) steps fuel) (openFrom values V 1002 1) fuel 2 (-1) steps)
    else none else none else none
def ModelIs (w w' : World) (m : Option (List Int)) (v : Value) : Prop :=
  match m with
  | none => v = .slice none 0 0
  | some m => (∃ b, v.ownBlock = some b) ∧ Kd.R (Kd.int .i64) 3 w' w.heap.size (fun _ => True) v m
theorem st_append_ints_step {P : Program} {ops : Array Oper} {o : Oper} {a : Act} {Q : Exit → Act → World → Prop} {Kc : Act → World → Prop} {w0 W : World} {L : List Asn} (H : St w0 W L) {i : Nat} {k : IntKind} {e : TypeId} {v : Value} {xs : List Int} (hi : L[i]? = some (row w0.heap.size (Kd.int k) e v xs)) (hw : Region.wanted o (yielded ops a.tmps) = true) (s x : Operand) (t : TypeId) (bytes : Nat) (ys : List Int) (A : Option Addr) (m c : Nat)
    (ho : o.op = .call { callee := .builtin .append, args := #[s, x], argTypes := #[t, t] })
    (ht : P.underlying t = some (.slice e)) (hinfo : (P.info? e).map (fun i => (i.zero, i.size, i.bytes)) = some (some (.int k 0), 1, bytes)) (hb0 : 0 < bytes)
    (hs : a.eval s = v) (hx : a.eval x = .slice A m c) (HC : Kd.C (Kd.int k) W A m ys) (hl : (xs.length + m) * bytes ≤ 140737488355328)
    (h : ∀ v1 w1, St w0 w1 (L.set i (row w0.heap.size (Kd.int k) e v1 (xs ++ ys))) → Kc (a.put o.dst v1) w1) :
    if Region.wanted o (yielded ops a.tmps) = true then Oper.wp P o a W Kc Q else Kc (a.put o.dst undef) W := by
  obtain ⟨F1, hA, _, hput⟩ := H.focus hi
  refine Kd.R_append_rows_step (Kd.int k) (w0 := w0) (W := W) w0.heap.size hw s x t e (.int k 0) bytes ho ht hinfo rfl (Nat.zero_lt_one) hb0 v xs ys A m c (fun b => F1 b ∨ W.heap.size ≤ b) (fun _ => False) hs hx
    (Kd.R_mono hA.1 (fun _ h => .inl h)) HC (fun _ _ h => h) (fun _ h => h.elim) (fun _ h => .inr h) H.below H.below.size hl ?_
  intro v1 w1 h1 _ hg _
  exact h v1 w1 (St.row_put hA.1 hput h1 hg)
theorem modelTo_bit {vals : List Int} {n : Nat} {u : Int} (h1 : 1 ≤ u) : (modelTo vals n (u - 1).toNat).set (u - 1).toNat (if rd vals u > 0 then 1 else 0) = modelTo vals n (u + 1 - 1).toNat := by
  obtain ⟨i, rfl⟩ : ∃ i : Nat, u = (i : Int) + 1 := ⟨(u - 1).toNat, by omega⟩
  rw [show ((i : Int) + 1 - 1).toNat = i by omega, show ((i : Int) + 1 + 1 - 1).toNat = i + 1 by omega]
  by_cases hp : rd vals ((i : Int) + 1) > 0
  · rw [if_pos hp]; exact modelTo_set hp
  · rw [if_neg hp, modelTo_skip hp]
    refine List.ext_getElem (by simp) (fun j h1 h2 => ?_)
    rw [List.getElem_set, modelTo_get]
    by_cases he : i = j
    · subst he; rw [if_pos rfl, if_neg (by omega)]
    · rw [if_neg he]
theorem ModelIs.lower {w w1 w' : World} {m : Option (List Int)} {v : Value} (h : ModelIs w1 w' m v) (hs : w.heap.size ≤ w1.heap.size) : ModelIs w w' m v := by
  cases m with
  | none => exact h
  | some m => exact ⟨h.1, Kd.R_lower h.2 hs⟩
theorem cells2 {w0 w : World} {L : List Asn} {i g : Nat} {T : TypeId} {a b : Value} (H : St w0 w L) (hi : L[i]? = some (box g T #[a, b])) : w.cell? ⟨g, 0, none⟩ = some a ∧ w.cell? ⟨g, 1, none⟩ = some b := ⟨H.box_cell hi 0, H.box_cell hi 1⟩
theorem copyInts_f {l : List Int} (h : l.length < 17592186044416) : ratchetbase_CopyInts.f l = some l := by
  unfold ratchetbase_CopyInts.f
  simp [h]
set_option maxHeartbeats 8000000 in
set_option maxRecDepth 100000 in
theorem search54 : ∀ (k : Nat) (V : Int) (A0 : Option Addr) (c0 : Nat) (L : List (List Int)) (A1 : Option Addr) (c1 : Nat) (D : List Int) (steps fuel : Int) (r : Option (List Int) × Int) (w : World) (hr0 : Kd.C (Kd.slice 3 (Kd.int .i64)) w A0 L.length L) (hc0 : L.length ≤ c0) (hr1 : Kd.C (Kd.int .i64) w A1 D.length D) (hc1 : D.length ≤ c1) (hV : 0 ≤ V ∧ V ≤ 1000) (h : refSearch k V L D steps fuel = some r),
    Calls Try.prog 54 #[.agg #[.int .i64 V, .slice A0 L.length c0], .slice A1 D.length c1, .int .i64 steps, .int .i64 fuel] w fun e w' => ∃ v, e = .returned (.tuple #[v, .int .i64 r.2]) ∧ ModelIs w w' r.1 v ∧ Below w.heap.size w w' := by
  intro k
  induction k with
  | zero => intro V A0 c0 L A1 c1 D steps fuel r w hr0 hc0 hr1 hc1 hV h; simp [refSearch] at h
  | succ k ih =>
  intro V A0 c0 L A1 c1 D steps fuel r w hr0 hc0 hr1 hc1 hV h
  unfold refSearch at h
  by_cases hdl : D.length ≤ 100000
  case neg => rw [if_neg hdl] at h; simp at h
  rw [if_pos hdl] at h
  obtain ⟨⟨forced, conflict⟩, hprop, h⟩ := Option.bind_eq_some_iff.1 h
  dsimp only at h
  obtain ⟨hV0, hV1⟩ := hV
  have HPROP := Ak hprop; have HIH := Ak ih; have HR := Ak hr0; have HR1 := Ak hr1; have HH := Ak h
  have H0 := Ak ((St.start w).box_new 24 #[.int .i64 V, .slice A0 L.length c0])
  clear hprop ih hr0 hr1 h
  have hu24 := Try.underlying24
  go_enter Try.func54, Try.ntmps54
  go_upto_region 1 with fail
  generalize hgf : w.heap.size = gf at H0 ⊢
  generalize World.alloc _ _ = w1 at H0 ⊢
  subst hgf
  have q0 := H0.out.box_cell (i := 0) rfl 0
  have q1 := H0.out.box_cell (i := 0) rfl 1
  simp only [List.getElem?_toArray, List.getElem?_cons_zero, List.getElem?_cons_succ] at q0 q1
  go_wp2_with fail
  with_reducible refine (ratchetref03_Propagated.calls k V A0 c0 L A1 c1 D forced conflict _ (Kd.C_below HR.out H0.out.below) hc0 (Kd.C_below HR1.out H0.out.below) hc1 HPROP.out).mono ?_
  clear q0 q1
  rintro e w2 ⟨v2, rfl, hR, hb⟩
  have H1 := Ak (H0.out.row_new hb hR); clear hb hR H0
  obtain ⟨A2, c2, rfl, hc2, _⟩ := H1.out.row_reads (i := 0) rfl
  by_cases hcf : conflict = -1
  case neg =>
    have hcb : (conflict != -1) = true := bne_iff_ne.2 hcf
    have hx := HH.out; rw [if_pos hcf] at hx
    obtain rfl := Option.some.inj hx
    clear hx HH hcf
    go_wp2
    go_ret2
    exact ⟨_, rfl, rfl, H1.out.below⟩
  have hcb : (conflict != -1) = false := bne_eq_false_iff_eq.2 hcf
  have hx := HH.out; rw [if_neg (fun h => h hcf)] at hx
  clear HH hcf
  by_cases hfl : forced.length ≤ 100000
  case neg => rw [if_neg hfl] at hx; simp at hx
  rw [if_pos hfl] at hx
  obtain ⟨values, hgiven, hx⟩ := Option.bind_eq_some_iff.1 hx
  by_cases hvl : (values.length : Int) = V + 1
  case neg => rw [if_neg hvl] at hx; simp at hx
  rw [if_pos hvl] at hx
  have HX := Ak hx; have HG := Ak hgiven; have HVL := Ak hvl
  clear hx hgiven hvl
  have hci : ratchetbase_CopyInts.f D = some D := copyInts_f (by omega)
  have hi3 : (Try.prog.info? 3).map (fun i => (i.zero, i.size, i.bytes)) = some (some (.int .i64 0), 1, 8) := by kernel_rfl
  have HI3 := Ak hi3; clear hi3
  go_wp2
  have n0_ := Ak H1.out.drew
  clear H1
  have H1 := n0_
  clear n0_
  refine start_ (n := 7) (S := fun (w' : World) => w'.cell? ⟨w.heap.size, 0, none⟩ = some (.int .i64 V) ∧ w'.cell? ⟨w.heap.size, 1, none⟩ = some (.slice A0 L.length c0)) (ds := []) #[false, false, false, false, false, false, false] (by kernel_rfl) rfl rfl (cells2 (i := 1) H1.out rfl) (fun hHeld => ?_)
  generalize World.drew _ = w_0 at H1 hHeld ⊢
  refine take_ (i := 0) (N := some 28) (v := ?_) (a' := ?_) #[true, false, false, false, false, false, false] rfl rfl (by kernel_rfl) (fun _ _ _ h => h) (Or.inl ⟨by rfl, ?_⟩) hHeld ?_ ?_
  rotate_left
  · rintro w' ⟨q0, q1⟩
    go_simp
    with_reducible rfl
  rotate_left
  · (try simp only [Act.put, La, Lb, Lc, i64_w, i32_w])
    rfl
  refine pure_ (i := 1) (N := some 29) (v := ?_) (a' := ?_) #[true, true, false, false, false, false, false] rfl rfl (by kernel_rfl) (fun _ _ _ h => h) (Or.inl ⟨by rfl, ?_⟩) ?_ ?_
  rotate_left
  · intro w'
    go_simp
    with_reducible rfl
  rotate_left
  · (try simp only [Act.put, La, Lb, Lc, i64_w, i32_w])
    rfl
  refine pure_ (i := 3) (N := some 31) (v := ?_) (a' := ?_) #[true, true, false, true, false, false, false] rfl rfl (by kernel_rfl) (fun _ _ _ h => h) (Or.inl ⟨by rfl, ?_⟩) ?_ ?_
  rotate_left
  · intro w'
    go_simp
    with_reducible rfl
  rotate_left
  · (try simp only [Act.put, La, Lb, Lc, i64_w, i32_w])
    rfl
  refine one_ (i := 2) (N := some 30) #[true, true, true, true, false, false, false] rfl rfl (by kernel_rfl) (by decide) (fun K hK => ?_)
  refine goes_ Try.func11 (by kernel_rfl) rfl ?args_2 (by rfl) rfl rfl ?hargs_2 ?main_2
  rotate_left 2
  with_reducible refine (ratchetbase_CopyInts.calls A1 c1 D D _ (Kd.C_below HR1.out H1.out.below) hc1 hci).mono ?_
  case hargs_2 => ((try simp only [List.map_toArray, List.map_cons, List.map_nil]); first | done | rfl)
  rintro e w_1 ⟨v30, rfl, hR, hb⟩
  refine ⟨_, rfl, ?_⟩
  have n0_ := Ak (H1.out.row_new hb hR)
  clear H1
  have H1 := n0_
  clear n0_
  clear hHeld
  (try clear hb)
  refine hK.out _ _ (cells2 (i := 2) H1.out rfl) (fun hHeld => ?_)
  clear hK K
  refine norm_ (a' := ?_) ?_ ?_
  rotate_left
  · show Act.put _ (some 30) _ = _
    (try simp only [Act.put, La, Lb, Lc, i64_w, i32_w])
    rfl
  obtain ⟨A30, c30, rfl, hc30, _⟩ := H1.out.row_reads (i := 0) rfl
  refine one_ (i := 4) (N := some 32) #[true, true, true, true, true, false, false] rfl rfl (by kernel_rfl) (by decide) (fun K hK => ?_)
  refine st_append_ints_step (k := .i64) (e := 3) (xs := D) H1.out (i := 0) rfl rfl (.tmp 30) (.tmp 31) 25 8 forced A2 forced.length c2 rfl Try.underlying25 HI3.out (by decide) rfl rfl (row_C (i := 1) H1.out rfl) (by omega) ?_
  intro v32 w_3 hs32
  simp only [List.set] at hs32
  have n0_ := Ak (hs32)
  clear H1
  have H1 := n0_
  clear n0_
  clear hHeld
  (try clear hb)
  refine hK.out _ _ (cells2 (i := 2) H1.out rfl) (fun hHeld => ?_)
  clear hK K
  refine norm_ (a' := ?_) ?_ ?_
  rotate_left
  · show Act.put _ (some 32) _ = _
    (try simp only [Act.put, La, Lb, Lc, i64_w, i32_w])
    rfl
  obtain ⟨A32, c32, rfl, hc32, _⟩ := H1.out.row_reads (i := 0) rfl
  refine one_ (i := 5) (N := some 33) #[true, true, true, true, true, true, false] rfl rfl (by kernel_rfl) (by decide) (fun K hK => ?_)
  refine goes_ Try.func73 (by kernel_rfl) rfl ?args_6 (by rfl) rfl rfl ?hargs_6 ?main_6
  rotate_left 2
  with_reducible refine (ratchetref03_given.calls k V A0 c0 L A32 c32 (D ++ forced) values _ (Kd.C_below HR.out H1.out.below) hc0 (row_C (i := 0) H1.out rfl) hc32 HG.out).mono ?_
  case hargs_6 => ((try simp only [List.map_toArray, List.map_cons, List.map_nil]); first | done | rfl)
  rintro e w_5 ⟨v33, rfl, hR, hb⟩
  refine ⟨_, rfl, ?_⟩
  have n0_ := Ak (H1.out.row_new hb hR)
  clear H1
  have H1 := n0_
  clear n0_
  clear hHeld
  (try clear hb)
  refine hK.out _ _ (cells2 (i := 3) H1.out rfl) (fun hHeld => ?_)
  clear hK K
  refine norm_ (a' := ?_) ?_ ?_
  rotate_left
  · show Act.put _ (some 33) _ = _
    (try simp only [Act.put, La, Lb, Lc, i64_w, i32_w])
    rfl
  refine pure_ (i := 6) (N := some 12) (v := ?_) (a' := ?_) #[true, true, true, true, true, true, true] rfl rfl (by kernel_rfl) (fun _ _ _ h => h) (Or.inl ⟨by rfl, ?_⟩) ?_ ?_
  rotate_left
  · intro w'
    go_simp
    with_reducible rfl
  rotate_left
  · (try simp only [Act.put, La, Lb, Lc, i64_w, i32_w])
    rfl
  refine done_ (by kernel_rfl) ?_
  have h2 := (H1.out.drop 1).drop 1
  simp only [List.eraseIdx] at h2
  have H2 := Ak h2
  clear h2 H1 HG HPROP hHeld hs32
  generalize (Value.slice A32 (D ++ forced).length c32) = v32
  obtain ⟨v0, hv0⟩ : ∃ v0, v0 = openFrom values V 1002 1 := ⟨_, rfl⟩
  have hx := HX.out; rw [← hv0] at hx
  have HX2 := Ak hx; have HV0 := Ak hv0.symm
  clear hx HX hv0
  have hvl := HVL.out
  obtain ⟨gv, cv, rfl, hcells⟩ := H2.out.row_cells (i := 0) rfl (by omega)
  clear hcells
  go_wp2
  go_loopg [2, 13] 1002 (fun kq v2 v13 wr => ∃ i : Int, v2 = .int .i64 steps ∧ v13 = .int .i64 i ∧ 1 ≤ i ∧ i ≤ V + 1 ∧ Aside0 (V + 1 - i < kq) ∧ Aside0 (openFrom values V kq i = v0) ∧ Aside0 (St w wr [row w.heap.size (Kd.int .i64) 3 (.slice (some ⟨gv, 0, none⟩) values.length cv) values, box w.heap.size 24 #[.int .i64 V, .slice A0 L.length c0]]))
  case atStart => exact ⟨1, rfl, rfl, by omega, by omega, ⟨by omega⟩, HV0, H2⟩
  case round =>
    obtain ⟨i, rfl, rfl, hi1, hi2, HQ, HE, H3⟩ := hrel
    obtain ⟨k1, rfl⟩ : ∃ m, gk = m + 1 := ⟨gk - 1, by have := HQ.out; omega⟩
    clear H2 HV0
    have q0 := H3.out.box_cell (i := 1) rfl 0
    have q1 := H3.out.box_cell (i := 1) rfl 1
    simp only [List.getElem?_toArray, List.getElem?_cons_zero, List.getElem?_cons_succ] at q0 q1
    have he := HE.out
    unfold openFrom at he
    by_cases hle : i ≤ V
    · rw [if_pos hle] at he
      have hcell := (H3.out.row_cell_n (i := 0) rfl rfl i (by omega) (by omega)).1
      by_cases hz : rd values i = 0
      · rw [if_pos hz] at he
        subst he
        rw [hz] at hcell
        have hx := HX2.out; rw [if_neg (by omega)] at hx
        have HX := Ak hx
        clear hx HX2 HE
        go_wp2
        clear hcell q0 q1 hz
        go_loopg [2, 14] 2 (fun kq v2 v14 wr => ∃ st sg : Int, v2 = .int .i64 st ∧ v14 = .int .i64 sg ∧ sg = 3 - 2 * (kq : Int) ∧ kq ≤ 2 ∧ Aside0 (signs (fun lit steps => refSearch k V L (D ++ [lit]) steps fuel) i fuel kq sg st = some r) ∧ Aside0 (St w wr [row w.heap.size (Kd.int .i64) 3 (.slice (some ⟨gv, 0, none⟩) values.length cv) values, box w.heap.size 24 #[.int .i64 V, .slice A0 L.length c0]]))
        case atStart => exact ⟨steps, -1, rfl, rfl, rfl, by omega, HX, H3⟩
        case round =>
          obtain ⟨st, sg, rfl, rfl, hsg, hk2, HS, H4⟩ := hrel
          clear H3 HX
          by_cases hk0 : gk = 0
          · subst hk0
            have hs := HS.out; unfold signs at hs
            obtain rfl := Option.some.inj hs
            obtain rfl : sg = 3 := by omega
            clear hs HS hsg hk2
            go_wp2
            go_ret2
            exact ⟨_, rfl, rfl, H4.out.below⟩
          obtain ⟨k2, rfl⟩ : ∃ m, gk = m + 1 := ⟨gk - 1, by omega⟩
          have hs := HS.out; unfold signs at hs
          have hsg1 : sg ≤ 1 := by omega
          have hsg2 : -1 ≤ sg := by omega
          have HSG := Ak hsg
          clear hsg
          by_cases hfu : wrap64 (st + 1) > fuel
          · rw [if_pos hfu] at hs
            obtain rfl := Option.some.inj hs
            clear hs HS
            go_wp2
            go_ret2
            exact ⟨_, rfl, rfl, H4.out.below⟩
          · rw [if_neg hfu] at hs
            obtain ⟨⟨m1, now⟩, hrec, hs⟩ := Option.bind_eq_some_iff.1 hs
            have HREC := Ak hrec; have HS2 := Ak hs
            clear hs hrec HS
            go_wp2
            have n0_ := Ak H4.out.drew
            clear H4
            have H4 := n0_
            clear n0_
            refine start_ (n := 16) (S := fun (w' : World) => w'.cell? ⟨w.heap.size, 0, none⟩ = some (.int .i64 V) ∧ w'.cell? ⟨w.heap.size, 1, none⟩ = some (.slice A0 L.length c0)) (ds := []) #[false, false, false, false, false, false, false, false, false, false, false, false, false, false, false, false] (by kernel_rfl) rfl rfl (cells2 (i := 1) H4.out rfl) (fun hHeld => ?_)
            generalize World.drew _ = w_7 at H4 hHeld ⊢
            refine take_ (i := 0) (N := some 56) (v := ?_) (a' := ?_) #[true, false, false, false, false, false, false, false, false, false, false, false, false, false, false, false] rfl rfl (by kernel_rfl) (fun _ _ _ h => h) (Or.inl ⟨by rfl, ?_⟩) hHeld ?_ ?_
            rotate_left
            · rintro w' ⟨q0, q1⟩
              go_simp
              with_reducible rfl
            rotate_left
            · (try simp only [Act.put, La, Lb, Lc, i64_w, i32_w])
              rfl
            refine pure_ (i := 1) (N := some 57) (v := ?_) (a' := ?_) #[true, true, false, false, false, false, false, false, false, false, false, false, false, false, false, false] rfl rfl (by kernel_rfl) (fun _ _ _ h => h) (Or.inl ⟨by rfl, ?_⟩) ?_ ?_
            rotate_left
            · intro w'
              go_simp
              with_reducible rfl
            rotate_left
            · (try simp only [Act.put, La, Lb, Lc, i64_w, i32_w])
              rfl
            refine pure_ (i := 3) (N := some 59) (v := ?_) (a' := ?_) #[true, true, false, true, false, false, false, false, false, false, false, false, false, false, false, false] rfl rfl (by kernel_rfl) (fun _ _ _ h => h) (Or.inl ⟨by rfl, ?_⟩) ?_ ?_
            rotate_left
            · intro w'
              go_simp
              with_reducible rfl
            rotate_left
            · (try simp only [Act.put, La, Lb, Lc, i64_w, i32_w])
              rfl
            refine pure_ (i := 4) (N := some 60) (v := ?_) (a' := ?_) #[true, true, false, true, true, false, false, false, false, false, false, false, false, false, false, false] rfl rfl (by kernel_rfl) (fun _ _ _ h => h) (Or.inl ⟨by rfl, ?_⟩) ?_ ?_
            rotate_left
            · intro w'
              go_simp
              with_reducible rfl
            rotate_left
            · (try simp only [Act.put, La, Lb, Lc, i64_w, i32_w])
              rfl
            refine pure_ (i := 5) (N := some 61) (v := ?_) (a' := ?_) #[true, true, false, true, true, true, false, false, false, false, false, false, false, false, false, false] rfl rfl (by kernel_rfl) (fun _ _ _ h => h) (Or.inl ⟨by rfl, ?_⟩) ?_ ?_
            rotate_left
            · intro w'
              go_simp
              with_reducible rfl
            rotate_left
            · (try simp only [Act.put, La, Lb, Lc, i64_w, i32_w])
              rfl
            refine pure_ (i := 8) (N := some 64) (v := ?_) (a' := ?_) #[true, true, false, true, true, true, false, false, true, false, false, false, false, false, false, false] rfl rfl (by kernel_rfl) (fun _ _ _ h => h) (Or.inl ⟨by rfl, ?_⟩) ?_ ?_
            rotate_left
            · intro w'
              go_simp
              with_reducible rfl
            rotate_left
            · (try simp only [Act.put, La, Lb, Lc, i64_w, i32_w])
              rfl
            refine pure_ (i := 9) (N := some 65) (v := ?_) (a' := ?_) #[true, true, false, true, true, true, false, false, true, true, false, false, false, false, false, false] rfl rfl (by kernel_rfl) (fun _ _ _ h => h) (Or.inl ⟨by rfl, ?_⟩) ?_ ?_
            rotate_left
            · intro w'
              go_simp
              with_reducible rfl
            rotate_left
            · (try simp only [Act.put, La, Lb, Lc, i64_w, i32_w])
              rfl
            refine join_ (σ := Value × Nat) 7 #[true, true, true, true, true, true, true, false, true, true, false, false, false, false, false, false] (fun s => [(58, s.1), (62, .slice (some ⟨s.2, 0, none⟩) 1 1)]) (fun s w' => St w w' [row w.heap.size (Kd.int .i64) 3 s.1 D, box s.2 3 #[.int .i64 (wrap64 (sg * i))], row w.heap.size (Kd.int .i64) 3 (.slice (some ⟨gv, 0, none⟩) values.length cv) values, box w.heap.size 24 #[.int .i64 V, .slice A0 L.length c0]]) ?_ ?_
            rotate_left
            · intro cont_
              refine two_ (i := 2) (j := 6) (Ni := some 58) (Nj := some 62) #[true, true, true, true, true, true, false, false, true, true, false, false, false, false, false, false] #[true, true, false, true, true, true, true, false, true, true, false, false, false, false, false, false] rfl rfl rfl rfl (by kernel_rfl) (by decide) (by decide) (fun K hK => ?_) (fun K hK => ?_)
              · skip
                refine goes_ Try.func11 (by kernel_rfl) rfl ?args_9 (by rfl) rfl rfl ?hargs_9 ?main_9
                rotate_left 2
                with_reducible refine (ratchetbase_CopyInts.calls A1 c1 D D _ (Kd.C_below HR1.out H4.out.below) hc1 hci).mono ?_
                case hargs_9 => ((try simp only [List.map_toArray, List.map_cons, List.map_nil]); first | done | rfl)
                rintro e w_8 ⟨v58, rfl, hR, hb⟩
                refine ⟨_, rfl, ?_⟩
                have n0_ := Ak (H4.out.row_new hb hR)
                clear H4
                have H4 := n0_
                clear n0_
                clear hHeld
                (try clear hb)
                refine hK.out _ _ ((by first | exact cells2 (i := 2) H4.out rfl | exact cells2 (i := 3) H4.out rfl)) (fun hHeld => ?_)
                clear hK K
                refine norm_ (a' := ?_) ?_ ?_
                rotate_left
                · show Act.put _ (some 58) _ = _
                  (try simp only [Act.put, La, Lb, Lc, i64_w, i32_w])
                  rfl
                refine one_ (i := 6) (N := some 62) #[true, true, true, true, true, true, true, false, true, true, false, false, false, false, false, false] rfl rfl (by kernel_rfl) (by decide) (fun K hK => ?_)
                refine value_ (v := .slice (some ⟨w_8.heap.size, 0, none⟩) 1 1) (w1 := w_8.alloc (.cells #[.int .i64 (wrap64 (sg * i))] 3)) (by rfl) rfl ?run_11 ?main_11
                · first | (go_simp; done) | (go_simp; rfl)
                have n0_ := Ak (H4.out.box_new 3 #[.int .i64 (wrap64 (sg * i))])
                clear H4
                have H4 := n0_
                clear n0_
                clear hHeld
                (try clear hb)
                refine hK.out _ _ ((by first | exact cells2 (i := 2) H4.out rfl | exact cells2 (i := 3) H4.out rfl)) (fun hHeld => ?_)
                clear hK K
                refine norm_ (a' := ?_) ?_ ?_
                rotate_left
                · show Act.put _ (some 62) _ = _
                  (try simp only [Act.put, La, Lb, Lc, i64_w, i32_w])
                  rfl
                generalize (w_8.alloc (.cells #[.int .i64 (wrap64 (sg * i))] 3)) = w_10 at H4 hHeld ⊢
                generalize w_8.heap.size = b62 at H4 ⊢
                exact norm_ (by first | (simp only [putAll, Act.put, La, Lb, Lc]; done) | (simp only [putAll, Act.put, La, Lb, Lc]; rfl)) (cont_ ((v58, b62)) _ (H4.out.perm (by first | exact .refl _ | exact .swap _ _ _)))
              · skip
                refine value_ (v := .slice (some ⟨w_7.heap.size, 0, none⟩) 1 1) (w1 := w_7.alloc (.cells #[.int .i64 (wrap64 (sg * i))] 3)) (by rfl) rfl ?run_13 ?main_13
                · first | (go_simp; done) | (go_simp; rfl)
                have n0_ := Ak (H4.out.box_new 3 #[.int .i64 (wrap64 (sg * i))])
                clear H4
                have H4 := n0_
                clear n0_
                clear hHeld
                (try clear hb)
                refine hK.out _ _ ((by first | exact cells2 (i := 2) H4.out rfl | exact cells2 (i := 3) H4.out rfl)) (fun hHeld => ?_)
                clear hK K
                refine norm_ (a' := ?_) ?_ ?_
                rotate_left
                · show Act.put _ (some 62) _ = _
                  (try simp only [Act.put, La, Lb, Lc, i64_w, i32_w])
                  rfl
                generalize (w_7.alloc (.cells #[.int .i64 (wrap64 (sg * i))] 3)) = w_12 at H4 hHeld ⊢
                generalize w_7.heap.size = b62 at H4 ⊢
                refine one_ (i := 2) (N := some 58) #[true, true, true, true, true, true, true, false, true, true, false, false, false, false, false, false] rfl rfl (by kernel_rfl) (by decide) (fun K hK => ?_)
                refine goes_ Try.func11 (by kernel_rfl) rfl ?args_15 (by rfl) rfl rfl ?hargs_15 ?main_15
                rotate_left 2
                with_reducible refine (ratchetbase_CopyInts.calls A1 c1 D D _ (Kd.C_below HR1.out H4.out.below) hc1 hci).mono ?_
                case hargs_15 => ((try simp only [List.map_toArray, List.map_cons, List.map_nil]); first | done | rfl)
                rintro e w_14 ⟨v58, rfl, hR, hb⟩
                refine ⟨_, rfl, ?_⟩
                have n0_ := Ak (H4.out.row_new hb hR)
                clear H4
                have H4 := n0_
                clear n0_
                clear hHeld
                (try clear hb)
                refine hK.out _ _ ((by first | exact cells2 (i := 2) H4.out rfl | exact cells2 (i := 3) H4.out rfl)) (fun hHeld => ?_)
                clear hK K
                refine norm_ (a' := ?_) ?_ ?_
                rotate_left
                · show Act.put _ (some 58) _ = _
                  (try simp only [Act.put, La, Lb, Lc, i64_w, i32_w])
                  rfl
                exact norm_ (by first | (simp only [putAll, Act.put, La, Lb, Lc]; done) | (simp only [putAll, Act.put, La, Lb, Lc]; rfl)) (cont_ ((v58, b62)) _ (H4.out.perm (by first | exact .refl _ | exact .swap _ _ _)))
            rintro ⟨v58, b62⟩ w_16 hF
            have n0_ := Ak (hF)
            (try clear H4)
            have H4 := n0_
            clear n0_
            clear hHeld
            have hHeld := (cells2 (i := 3) H4.out rfl)
            change (fun (w' : World) => w'.cell? ⟨w.heap.size, 0, none⟩ = some (.int .i64 V) ∧ w'.cell? ⟨w.heap.size, 1, none⟩ = some (.slice A0 L.length c0)) _ at hHeld
            (try dsimp only at H4)
            obtain ⟨A58, c58, rfl, hc58, _⟩ := H4.out.row_reads (i := 0) rfl
            refine norm_ (a' := ?_) ?_ ?_
            rotate_left
            · simp only [putAll, Act.put, La, Lb, Lc]
              rfl
            refine one_ (i := 7) (N := some 63) #[true, true, true, true, true, true, true, true, true, true, false, false, false, false, false, false] rfl rfl (by kernel_rfl) (by decide) (fun K hK => ?_)
            refine st_append_ints_step (k := .i64) (e := 3) (xs := D) H4.out (i := 0) rfl rfl (.tmp 58) (.tmp 62) 25 8 [wrap64 (sg * i)] (some ⟨b62, 0, none⟩) 1 1 rfl Try.underlying25 HI3.out (by decide) rfl rfl (C_of_block (k := .i64) (xs := [wrap64 (sg * i)]) (H4.out.box_at (i := 1) rfl).1 (by simp)) (by omega) ?_
            intro v63 w_17 hs63
            simp only [List.set] at hs63
            have n0_ := Ak (hs63)
            clear H4
            have H4 := n0_
            clear n0_
            clear hHeld
            (try clear hb)
            refine hK.out _ _ (cells2 (i := 3) H4.out rfl) (fun hHeld => ?_)
            clear hK K
            refine norm_ (a' := ?_) ?_ ?_
            rotate_left
            · show Act.put _ (some 63) _ = _
              (try simp only [Act.put, La, Lb, Lc, i64_w, i32_w])
              rfl
            obtain ⟨A63, c63, rfl, hc63, _⟩ := H4.out.row_reads (i := 0) rfl
            refine one_ (i := 10) (N := some 66) #[true, true, true, true, true, true, true, true, true, true, true, false, false, false, false, false] rfl rfl (by kernel_rfl) (by decide) (fun K hK => ?_)
            refine goes_ Try.func54 (by kernel_rfl) rfl ?args_20 (by rfl) rfl rfl ?hargs_20 ?main_20
            rotate_left 2
            with_reducible refine (HIH.out V A0 c0 L A63 c63 (D ++ [wrap64 (sg * i)]) (wrap64 (st + 1)) fuel (m1, now) _ (Kd.C_below HR.out H4.out.below) hc0 (row_C (i := 0) H4.out rfl) hc63 ⟨hV0, hV1⟩ HREC.out).mono ?_
            case hargs_20 => ((try simp only [List.map_toArray, List.map_cons, List.map_nil]); first | done | rfl)
            rintro e w_19 ⟨v66, rfl, hM, hb⟩
            refine ⟨_, rfl, ?_⟩
            have n0_ := Ak (And.intro (H4.out.mv hb) (hM.lower H4.out.below.size))
            clear H4
            have H4 := n0_
            clear n0_
            clear hHeld
            (try clear hb)
            refine hK.out _ _ (cells2 (i := 3) H4.out.1 rfl) (fun hHeld => ?_)
            clear hK K
            refine norm_ (a' := ?_) ?_ ?_
            rotate_left
            · show Act.put _ (some 66) _ = _
              (try simp only [Act.put, La, Lb, Lc, i64_w, i32_w])
              rfl
            have HM := Ak H4.out.2; have n9_ := Ak ((H4.out.1.drop 0).drop 0); clear H4; have H4 := n9_; clear n9_
            refine pure_ (i := 11) (N := some 55) (v := ?_) (a' := ?_) #[true, true, true, true, true, true, true, true, true, true, true, true, false, false, false, false] rfl rfl (by kernel_rfl) (fun _ _ _ h => h) (Or.inl ⟨by rfl, ?_⟩) ?_ ?_
            rotate_left
            · intro w'
              go_simp
              with_reducible rfl
            rotate_left
            · (try simp only [Act.put, La, Lb, Lc, i64_w, i32_w])
              rfl
            refine pure_ (i := 12) (N := some 67) (v := ?_) (a' := ?_) #[true, true, true, true, true, true, true, true, true, true, true, true, true, false, false, false] rfl rfl (by kernel_rfl) (fun _ _ _ h => h) (Or.inl ⟨by rfl, ?_⟩) ?_ ?_
            rotate_left
            · intro w'
              go_simp
              with_reducible rfl
            rotate_left
            · (try simp only [Act.put, La, Lb, Lc, i64_w, i32_w])
              rfl
            refine pure_ (i := 13) (N := some 68) (v := ?_) (a' := ?_) #[true, true, true, true, true, true, true, true, true, true, true, true, true, true, false, false] rfl rfl (by kernel_rfl) (fun _ _ _ h => h) (Or.inl ⟨by rfl, ?_⟩) ?_ ?_
            rotate_left
            · intro w'
              go_simp
              with_reducible rfl
            rotate_left
            · (try simp only [Act.put, La, Lb, Lc, i64_w, i32_w])
              rfl
            refine pure_ (i := 14) (N := some 15) (v := ?_) (a' := ?_) #[true, true, true, true, true, true, true, true, true, true, true, true, true, true, true, false] rfl rfl (by kernel_rfl) (fun _ _ _ h => h) (Or.inl ⟨by rfl, ?_⟩) ?_ ?_
            rotate_left
            · intro w'
              go_simp
              with_reducible rfl
            rotate_left
            · (try simp only [Act.put, La, Lb, Lc, i64_w, i32_w])
              rfl
            refine pure_ (i := 15) (N := some 16) (v := ?_) (a' := ?_) #[true, true, true, true, true, true, true, true, true, true, true, true, true, true, true, true] rfl rfl (by kernel_rfl) (fun _ _ _ h => h) (Or.inl ⟨by rfl, ?_⟩) ?_ ?_
            rotate_left
            · intro w'
              go_simp
              with_reducible rfl
            rotate_left
            · (try simp only [Act.put, La, Lb, Lc, i64_w, i32_w])
              rfl
            refine done_ (by kernel_rfl) ?_
            simp only [List.eraseIdx] at H4
            (try clear hHeld hs63)
            have hs := HS2.out
            clear HS2 HREC
            cases m1 with
            | some m =>
              rw [if_pos (show (some m).isSome = true ∨ now > fuel from Or.inl rfl)] at hs
              obtain rfl := Option.some.inj hs
              clear hs
              obtain ⟨⟨bo, hbo⟩, hR66⟩ := HM.out
              obtain ⟨A66, c66, rfl, hc66, _⟩ := Kd.R_reads hR66
              cases A66 with
              | none => cases hbo
              | some ad =>
                have hne : ∀ w : World, (binOp .neq 25 (.slice (some ad) m.length c66) (.slice none 0 0)).run Try.prog w = .ok (.bool true) w := fun w => neq_slice_nil w 25 3 (some ad) m.length c66 Try.underlying25
                clear hR66 hbo
                go_wp2
                go_ret2
                exact ⟨_, rfl, HM.out, H4.out.below⟩
            | none =>
              obtain rfl : v66 = .slice none 0 0 := HM.out
              have hne : ∀ w : World, (binOp .neq 25 (.slice none 0 0) (.slice none 0 0)).run Try.prog w = .ok (.bool false) w := fun w => neq_slice_nil w 25 3 none 0 0 Try.underlying25
              by_cases hnf : now > fuel
              · rw [if_pos (Or.inr hnf)] at hs
                obtain rfl := Option.some.inj hs
                clear hs
                go_wp2
                go_ret2
                exact ⟨_, rfl, rfl, H4.out.below⟩
              · rw [if_neg (show ¬ ((none : Option (List Int)).isSome = true ∨ now > fuel) from fun h => h.elim (fun h => nomatch h) hnf)] at hs
                have HS3 := Ak hs
                clear hs
                go_wp2
                go_roundg k2
                case measure => omega
                case rel => exact ⟨now, sg + 2, by go_num, by go_num, by have := HSG.out; omega, by omega, HS3, H4⟩
      · rw [if_neg hz] at he
        have HE2 := Ak he
        clear he HE
        have hzb : (rd values i != 0) = true := bne_iff_ne.2 hz
        go_wp2
        go_roundg k1
        case measure => omega
        case rel => exact ⟨i + 1, rfl, by go_num, by omega, by omega, ⟨by have := HQ.out; omega⟩, HE2, H3⟩
    · rw [if_neg hle] at he
      subst he
      obtain rfl : i = V + 1 := by omega
      have hx := HX2.out; rw [if_pos (by omega)] at hx
      obtain rfl := Option.some.inj hx
      obtain ⟨N, rfl⟩ := Int.eq_ofNat_of_zero_le hV0
      clear hx HX2 HE hle hi1 hi2
      go_upto_region 20 with fail
      go_upto_region 21 with ((with_reducible refine gate_dst (N := 82) rfl ?_); refine Kd.R_make (Kd.int .i64) (w0 := wr) (W := wr) wr.heap.size 3 ?hg (N := 82) ?hd 25 (.tmp 81) (.tmp 81) rfl (N : Int) rfl rfl Try.underlying25 (.int .i64 0) 8 HI3.out rfl Nat.zero_lt_one (by decide) 0 (ok := fun _ => True) (okp := fun _ => False) rfl (fun _ h => h.elim) trivial hV0 (by omega) (Below.refl _ _) (Nat.le_refl _) ?_; (case hd => rfl); (case hg => rfl); intro v82 w5 hR hb _ hown; have H5 := Ak (H3.out.row_new hb hR); have HOWN := Ak hown; clear hR hb H3 hown q0 q1)
      rw [Int.toNat_natCast] at H5
      obtain ⟨A82, c82, rfl, hc82, _⟩ := H5.out.row_reads (i := 0) rfl
      rw [List.length_replicate] at H5 hc82 HOWN ⊢
      rw [← modelTo_zero values N] at H5
      go_wp2
      have hN := HVL.out
      clear hc82
      go_loopg [18] N (fun kq v18 wr => ∃ u : Int, v18 = .int .i64 u ∧ 1 ≤ u ∧ Aside0 (u + (kq : Int) = (N : Int) + 1) ∧ Aside0 (St w wr [row w.heap.size (Kd.int .i64) 3 (.slice A82 N c82) (modelTo values N (u - 1).toNat), row w.heap.size (Kd.int .i64) 3 (.slice (some ⟨gv, 0, none⟩) values.length cv) values, box w.heap.size 24 #[.int .i64 (N : Int), .slice A0 L.length c0]]))
      case atStart => exact ⟨1, rfl, by omega, ⟨by omega⟩, H5⟩
      case round =>
        obtain ⟨u, rfl, hu1, HI, H6⟩ := hrel
        clear H5
        have q0 := H6.out.box_cell (i := 2) rfl 0
        simp only [List.getElem?_toArray, List.getElem?_cons_zero, List.getElem?_cons_succ] at q0
        by_cases hi : u ≤ (N : Int)
        · have hxv := (H6.out.row_cell_n (i := 1) rfl rfl u (by omega) (by omega)).1
          have hb1 : ratchetbase_Bit.f (decide (rd values u > 0)) = some (if rd values u > 0 then 1 else 0) := by unfold ratchetbase_Bit.f; simp only [decide_eq_true_eq]; split <;> rfl
          have hms := modelTo_bit (vals := values) (n := N) hu1
          obtain ⟨g82, c82', he82⟩ := H6.out.row_form (i := 0) rfl (by rw [modelTo_len]; omega)
          rw [modelTo_len] at he82
          injection he82 with he1 _ he3
          subst he1; subst he3
          generalize hbt : (if rd values u > 0 then (1 : Int) else 0) = bt at hb1 hms
          have HMS := Ak hms
          clear hms hbt
          go_wp2_with fail
          refine (ratchetbase_Bit.calls _ bt _ hb1).mono ?_
          clear hxv q0
          rintro e w6 ⟨rfl, hb⟩
          have h7 := H6.out.mv hb.below
          obtain ⟨kc, kf⟩ := h7.row_cell_n (i := 0) rfl (modelTo_len _ _ _).symm (u - 1) (by omega) (by omega)
          have hput := h7.row_set_n (i := 0) rfl (modelTo_len _ _ _).symm (u - 1) bt
          rw [HMS.out] at hput
          rw [show (u - 1).toNat = u.toNat - 1 by omega] at kc kf hput
          simp only [List.set] at hput
          have HP := Ak hput
          clear hb h7 hput H6 HMS
          go_upto_region 23 with fail
          generalize World.setCell w6 _ _ = w7 at HP ⊢
          clear kc kf
          go_wp2
          go_roundg (gk - 1)
          case measure => have := HI.out; omega
          case rel => exact ⟨u + 1, by go_num, by omega, ⟨by have := HI.out; omega⟩, HP⟩
        · obtain rfl : u = (N : Int) + 1 := by have := HI.out; omega
          have h6 := H6.out
          rw [show ((N : Int) + 1 - 1).toNat = (N : Int).toNat by omega, show modelTo values N (N : Int).toNat = modelOf values (N : Int) from by rw [← modelTo_all values (N : Int), Int.toNat_natCast]] at h6
          have H7 := Ak h6
          clear h6 H6 hi
          go_wp2
          go_ret2
          exact ⟨_, rfl, ⟨by obtain ⟨b, hb, _⟩ := HOWN.out; exact ⟨b, hb⟩, H7.out.row_out (i := 0) rfl⟩, H7.out.below⟩
def ratchetref03_First.f (k : Nat) (a0_0 : Int) (l0_1 : List (List Int)) (a1 : Int) : Option (Bool × Int × Bool) :=
  if 0 ≤ a0_0 ∧ a0_0 ≤ 1000 then (refSearch k a0_0 l0_1 [] 0 a1).bind fun r => if r.2 > a1 then some (false, 0, false) else some (r.1.isSome, r.2, true) else none
theorem signs_mono {f g : Int → Int → Option (Option (List Int) × Int)} (h : ∀ a b, LeO (f a b) (g a b)) (v fuel : Int) : ∀ (r : Nat) (sign steps : Int), LeO (signs f v fuel r sign steps) (signs g v fuel r sign steps)
  | 0, _, _ => LeO.refl _
  | r + 1, sign, steps => by
    unfold signs
    exact LeO.ite (LeO.refl _) (LeO.bind (h _ _) fun x => LeO.ite (LeO.refl _) (signs_mono h v fuel r _ _))
theorem refSearch.mono : ∀ (k : Nat) (V : Int) (L : List (List Int)) (D : List Int) (steps fuel : Int), LeO (refSearch k V L D steps fuel) (refSearch (k + 1) V L D steps fuel)
  | 0, _, _, _, _, _ => LeO.none _
  | k + 1, V, L, D, steps, fuel => by
    unfold refSearch
    exact LeO.ite (LeO.bind (ratchetref03_Propagated.mono _ _ _ _) fun x => LeO.ite (LeO.refl _) (LeO.ite (LeO.bind (ratchetref03_given.mono _ _ _ _) fun values => LeO.ite (LeO.ite (LeO.refl _) (signs_mono (fun lit st => refSearch.mono k V L _ st fuel) _ _ _ _ _)) (LeO.none _)) (LeO.none _))) (LeO.none _)
set_option maxHeartbeats 8000000 in
set_option maxRecDepth 100000 in
theorem ratchetref03_First.calls (k : Nat) (a0_0 : Int) (A0_1 : Option Addr) (c0_1 : Nat) (l0_1 : List (List Int)) (a1 : Int) (r1 : Bool) (r2 : Int) (r3 : Bool) (w : World) (hr0_1 : Kd.C (Kd.slice 3 (Kd.int .i64)) w A0_1 l0_1.length l0_1) (hc0_1 : l0_1.length ≤ c0_1) (h : ratchetref03_First.f k a0_0 l0_1 a1 = some (r1, r2, r3)) :
    Calls Try.prog 21 #[.agg #[.int .i64 a0_0, .slice A0_1 l0_1.length c0_1], .int .i64 a1] w fun e w' => ∃ (A : Option Addr) (n c : Nat), e = .returned (.tuple #[.slice A n c, .int .i64 r2, .bool r3]) ∧ A.isNone = !r1 ∧ Below w.heap.size w w' := by
  unfold ratchetref03_First.f at h
  by_cases hV : 0 ≤ a0_0 ∧ a0_0 ≤ 1000
  case neg => rw [if_neg hV] at h; cases h
  rw [if_pos hV] at h
  obtain ⟨⟨m, steps⟩, hs, h⟩ := Option.bind_eq_some_iff.1 h
  dsimp only at h
  have HR := Ak hr0_1; have HS := Ak hs; have HH := Ak h
  have H0 := Ak ((St.start w).box_new 24 #[.int .i64 a0_0, .slice A0_1 l0_1.length c0_1])
  clear hr0_1 hs h
  have hu24 := Try.underlying24
  go_enter Try.func21, Try.ntmps21
  go_upto_region 1 with fail
  generalize hgf : w.heap.size = gf at H0 ⊢
  generalize World.alloc _ _ = w1 at H0 ⊢
  subst hgf
  have q0 := H0.out.box_cell (i := 0) rfl 0
  have q1 := H0.out.box_cell (i := 0) rfl 1
  simp only [List.getElem?_toArray, List.getElem?_cons_zero, List.getElem?_cons_succ] at q0 q1
  go_wp2_with fail
  refine (search54 k a0_0 A0_1 c0_1 l0_1 none 0 [] 0 a1 (m, steps) _ (Kd.C_below HR.out H0.out.below) hc0_1 (Kd.C_nil _ _) (by simp) hV HS.out).mono ?_
  clear q0 q1
  rintro e w2 ⟨v, rfl, hM, hb⟩
  have H1 := Ak (H0.out.mv hb); clear hb H0
  have hh := HH.out
  have hv : ∃ (A : Option Addr) (n c : Nat), v = .slice A n c ∧ A.isNone = !m.isSome := by
    cases m with
    | none => exact ⟨none, 0, 0, hM, rfl⟩
    | some m =>
      obtain ⟨⟨b, hb⟩, hR⟩ := hM
      obtain ⟨A, c, rfl, _, _⟩ := Kd.R_reads hR
      cases A with
      | none => cases hb
      | some ad => exact ⟨_, _, _, rfl, rfl⟩
  obtain ⟨A, n, c, rfl, hA⟩ := hv
  have HA := Ak hA
  clear hM hA HH HS
  by_cases hf : steps > a1
  · rw [if_pos hf] at hh
    obtain ⟨rfl, rfl, rfl⟩ : false = r1 ∧ 0 = r2 ∧ false = r3 := by simpa using hh
    clear hh
    go_wp2
    go_ret3
    exact ⟨none, 0, 0, rfl, rfl, H1.out.below⟩
  · rw [if_neg hf] at hh
    obtain ⟨rfl, rfl, rfl⟩ : m.isSome = r1 ∧ steps = r2 ∧ true = r3 := by simpa using hh
    clear hh
    go_wp2
    go_ret3
    exact ⟨A, n, c, rfl, HA.out, H1.out.below⟩
end Go.Proofs.Ytapbkoolddnjgaa.PA
