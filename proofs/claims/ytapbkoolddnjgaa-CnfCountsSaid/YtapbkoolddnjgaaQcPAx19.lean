/- What the claim needs of PAx19: lemmas and contracts, cut by a program to what is used. -/
import Derived.Test.YtapbkoolddnjgaaQcPAx0
import Derived.Test.YtapbkoolddnjgaaQcPAx1
import Derived.Test.YtapbkoolddnjgaaQcPAx2
import Derived.Test.YtapbkoolddnjgaaQcPAx7
import Derived.Test.YtapbkoolddnjgaaQcPAx8
import Derived.Test.YtapbkoolddnjgaaQcPAx9
import Derived.Test.YtapbkoolddnjgaaQcPAx18
namespace Go.Proofs.Ytapbkoolddnjgaa.PA
open Go.RowKit Go.Proofs.YtapbkoolddnjgaaW.PrintWords Go.Proofs.YtapbkoolddnjgaaW.PrintLast Go.Proofs.YtapbkoolddnjgaaW.PrintMore Go.Proofs.Sl
attribute [local go_sem] max2_int min2_int max_two min_two max_three min_three max_four min_four
set_option linter.unusedVariables false
set_option linter.unusedSimpArgs false
def rowS {α : Type} (B : Nat) (d : Kd α) (e : TypeId) (v : Value) (xs : List α) : Asn where
  H F w := Kd.S d e w B F v xs ∧ ∀ b, F b → b < w.heap.size
  move hm h := ⟨Kd.S_step h.1 (fun k hk _ => hm k hk), fun b hb => lt_move (hm b hb) (h.2 b hb)⟩
  lt h hb := h.2 _ hb
theorem rowS_nil {α : Type} (d : Kd α) (e : TypeId) {w0 w : World} {L : List Asn} (h : St w0 w L) : St w0 w (rowS w0.heap.size d e (.slice none 0 0) ([] : List α) :: L) :=
  h.new (Below.refl _ _) _ (fun _ => False) ⟨Kd.S_nil _ _ _ _ _, fun b hb => hb.elim⟩ (fun b hb => hb.elim)
theorem rowS_reads {α : Type} {B : Nat} {d : Kd α} {e : TypeId} {v : Value} {xs : List α} {w0 w : World} {L : List Asn} (h : St w0 w L) {i : Nat} (hi : L[i]? = some (rowS B d e v xs)) : ∃ A c, v = .slice A xs.length c ∧ xs.length ≤ c ∧ d.C w A xs.length xs := by
  obtain ⟨F, hF, hl⟩ := h.holds hi
  exact Kd.S_reads hF.1
theorem rowS_out {α : Type} {B : Nat} {d : Kd α} {e : TypeId} {v : Value} {xs : List α} {w0 w : World} {L : List Asn} (h : St w0 w L) {i : Nat} (hi : L[i]? = some (rowS B d e v xs)) : Kd.S d e w B (fun _ => True) v xs := by
  obtain ⟨F, hF, hl⟩ := h.holds hi
  exact Kd.S_mono hF.1 (fun _ _ => trivial)
theorem rowS_new {α : Type} {d : Kd α} {e : TypeId} {v : Value} {xs : List α} {ok : Nat → Prop} {w0 w w' : World} {L : List Asn} (h : St w0 w L) (hb : Below w.heap.size w w') (hr : Kd.S d e w' w.heap.size ok v xs) : St w0 w' (rowS w0.heap.size d e v xs :: L) :=
  h.new hb _ (fun b => w.heap.size ≤ b ∧ b < w'.heap.size) ⟨Kd.S_lower (Kd.S_mono (Kd.S_bound hr) (fun k hk => ⟨hk.2.1, hk.2.2.1⟩)) h.below.size, fun b hb => hb.2⟩ (fun b hb => hb.1)
section
variable {P : Program} {ops : Array Oper} {rest : List Oper} {o : Oper} {a : Act} {Q : Exit → Act → World → Prop} {w0 W : World} {M : List Asn}
theorem st_append_own {e : TypeId} {v u : Value} {xs : List (List Int)} {y : List Int} (H : St w0 W (rowS w0.heap.size (Kd.slice 3 (Kd.int .i64)) e v xs :: row w0.heap.size (Kd.int .i64) 3 u y :: M)) (hgd : o.guard = none) (s x : Operand) (t : TypeId) (bytes : Nat)
    (ho : o.op = .call { callee := .builtin .append, args := #[s, x], argTypes := #[t, t] })
    (ht : P.underlying t = some (.slice e)) (hinfo : (P.info? e).map (fun i => (i.zero, i.size, i.bytes)) = some (some (.slice none 0 0), 1, bytes)) (hb0 : 0 < bytes)
    (hs : a.eval s = v) (hx : a.eval x = .slice (some ⟨W.heap.size, 0, none⟩) 1 1) (hl : (xs.length + 1) * bytes ≤ 140737488355328)
    (h : ∀ v1 w1, St w0 w1 (rowS w0.heap.size (Kd.slice 3 (Kd.int .i64)) e v1 (xs ++ [y]) :: M) → wpList P ops Q rest (a.put o.dst v1) w1) :
    wpList P ops Q (o :: rest) a (W.alloc (.cells #[u] e)) := by
  have H1 : St w0 W (sepA [rowS w0.heap.size (Kd.slice 3 (Kd.int .i64)) e v xs, row w0.heap.size (Kd.int .i64) 3 u y] :: M) := St.shut_sep (by simpa using H)
  obtain ⟨F, hA, hF, hput⟩ := H1.focus (i := 0) rfl
  obtain ⟨F1, F2, he, hd, ⟨hR1, hl1⟩, F3, F4, he2, hd2, ⟨hR2, hl2⟩, h0⟩ := (hA : Sep _ F W)
  refine Kd.S_append (Kd.slice 3 (Kd.int .i64)) (w0 := w0) (W := W) w0.heap.size hgd s x t e (.slice none 0 0) bytes ho ht hinfo rfl Nat.zero_lt_one hb0 v xs y [u] (fun b => F b ∨ W.heap.size ≤ b) F3 hs hx ⟨u, rfl, hR2⟩ (fun k hk => ⟨.inl ((he k).2 (.inr ((he2 k).2 (.inl hk)))), fun e1 => hd k ((Kd.S_R hR1).1 k e1.symm) ((he2 k).2 (.inl hk))⟩) (fun _ h => .inr h)
    (Kd.S_mono hR1 (fun k hk => ⟨.inl ((he k).2 (.inl hk)), fun h3 => hd k hk ((he2 k).2 (.inl h3))⟩)) H.below H.below.size hl ?_
  intro v1 w1 h1 _ hg _
  refine h v1 w1 ?_
  have := hput w1 (rowS w0.heap.size (Kd.slice 3 (Kd.int .i64)) e v1 (xs ++ [y])) (fun k => (F k ∨ W.heap.size ≤ k) ∧ k < w1.heap.size) hg.os hg.tape hg.output hg.size ⟨Kd.S_mono (Kd.S_bound h1) (fun k hk => ⟨hk.1, hk.2.2.1⟩), fun b hb => hb.2⟩ (fun b hb => hb.1)
    (fun b hb hn => hg.block b hb (fun e1 => hn ((he b).2 (.inl ((Kd.S_R hR1).1 b e1.symm)))))
  simpa using this
end
def underL (lit : Int) : List (List Int) → List (List Int)
  | [] => []
  | c :: L => if c.contains lit = true then underL lit L else (c.filter fun x => !opp lit x) :: underL lit L
set_option maxHeartbeats 8000000 in
set_option maxRecDepth 100000 in
theorem under57 (A : Option Addr) (c : Nat) (L : List (List Int)) (lit : Int) (w : World) (hread : Kd.C (Kd.slice 3 (Kd.int .i64)) w A L.length L) (hL : L.length ≤ 100000) (hc : ∀ c ∈ L, c.length ≤ 100000) :
    Calls Try.prog 57 #[.slice A L.length c, .int .i64 lit] w fun e w' => ∃ v, e = .returned v ∧ Kd.S (Kd.slice 3 (Kd.int .i64)) 25 w' w.heap.size (fun _ => True) v (underL lit L) ∧ Below w.heap.size w w' := by
  generalize hfin : underL lit L = fin
  have HFIN := Ak hfin
  have HR := Ak hread; have HC := Ak hc
  have H0 := Ak ((St.start w).box_new 3 #[.int .i64 lit])
  clear hread hc hfin
  have hi25 : (Try.prog.info? 25).map (fun i => (i.zero, i.size, i.bytes)) = some (some (.slice none 0 0), 1, 24) := by kernel_rfl
  have HI25 := Ak hi25; clear hi25
  go_enter Try.func57, Try.ntmps57
  go_upto_region 1 with fail
  generalize hgg : w.heap.size = g at H0 ⊢
  generalize World.alloc _ _ = w1 at H0 ⊢
  subst hgg
  have H1 := Ak (rowS_nil (Kd.slice 3 (Kd.int .i64)) 25 H0.out); clear H0
  go_wp2
  go_loopg [5, 10] L.length (fun kq v5 v10 wr => ∃ (i : Nat) (o : List (List Int)), v10 = .int .i64 (i : Int) ∧ Aside0 (i + kq = L.length) ∧ Aside0 (o ++ underL lit (L.drop i) = fin) ∧ Aside0 (o.length ≤ i) ∧ Aside0 (St w wr [rowS w.heap.size (Kd.slice 3 (Kd.int .i64)) 25 v5 o, box w.heap.size 3 #[.int .i64 lit]]))
  case atStart => exact ⟨0, [], rfl, ⟨by omega⟩, ⟨by rw [List.drop_zero, List.nil_append]; exact HFIN.out⟩, ⟨by simp⟩, H1⟩
  case round =>
    obtain ⟨i, o, rfl, HI, HF, HO, H2⟩ := hrel
    clear H1
    by_cases hi : i < L.length
    · have hi0 : (0 : Int) ≤ (i : Int) := by omega
      have hi1 : (i : Int) < (L.length : Int) := by omega
      obtain ⟨ad, A0, c0, rfl, hx, hc0, hC0⟩ := at_rows (Kd.C_below HR.out H2.out.below) (i : Int) hi0 hi1
      rw [Int.toNat_natCast] at hx
      have hmem : rdL L (i : Int) ∈ L := by unfold rdL; simp [hi]
      have hd : L.drop i = rdL L (i : Int) :: L.drop (i + 1) := by rw [List.drop_eq_getElem_cons hi]; simp [rdL, hi]
      have hlen := HC.out _ hmem
      have hf := HF.out; rw [hd] at hf; unfold underL at hf
      generalize rdL L (i : Int) = ci at hx hc0 hC0 hf hlen
      have hhas := has_f ci lit (by omega)
      generalize ci.contains lit = b at hf hhas
      have HF2 := Ak hf; have HH := Ak hhas; have HC0 := Ak hC0
      clear hf hhas hd hmem HF hC0
      obtain ⟨A5, c5, rfl, hc5, _⟩ := rowS_reads H2.out (i := 0) rfl
      have q := H2.out.box_cell (i := 1) rfl 0
      simp only [List.getElem?_toArray, List.getElem?_cons_zero, List.getElem?_cons_succ] at q
      go_wp2_with fail
      with_reducible refine (cnf_has.calls (ci.length + 1) A0 c0 ci lit b _ HC0.out hc0 HH.out).mono ?_
      clear hx q
      rintro e w2 ⟨rfl, hb⟩
      have H3 := Ak (H2.out.mv hb.below); have HC1 := Ak (Kd.C_below HC0.out hb.below); clear hb H2 HC0
      cases b with
      | true =>
        have HF3 := Ak (show o ++ underL lit (L.drop (i + 1)) = fin from HF2.out)
        clear HF2
        go_wp2
        go_roundg (gk - 1)
        case measure => have := HI.out; omega
        case rel => exact ⟨i + 1, o, by go_num, ⟨by have := HI.out; omega⟩, HF3, ⟨by have := HO.out; omega⟩, H3⟩
      | false =>
        have HF3 := Ak (show o ++ (ci.filter fun x => !opp lit x) :: underL lit (L.drop (i + 1)) = fin from HF2.out)
        clear HF2
        go_wp2_with fail
        with_reducible refine (clone81 A0 c0 ci _ HC1.out hc0 (by omega)).mono ?_
        rintro e w3 ⟨u, rfl, hR, hb⟩
        have H4 := Ak (H3.out.row_new hb hR); clear hb hR H3 HC1
        go_wp2_with fail
        with_reducible refine (delete80 lit _ H4.out (i := 1) rfl).mono ?_
        rintro e w4 ⟨u2, rfl, hs⟩
        have H5 := Ak (hs.front (i := 1) rfl); clear hs H4
        simp only [List.eraseIdx] at H5
        have hbd : (o.length + 1) * 24 ≤ 140737488355328 := by have := HO.out; omega
        have HBD := Ak hbd; clear hbd
        generalize (ci.filter fun x => !opp lit x) = y at H5 HF3
        obtain ⟨A8, c8, rfl, _, _⟩ := H5.out.row_reads (i := 1) rfl
        go_wp2_with (at_builtin; refine st_append_own (xs := o) (y := y) H5.out rfl (.tmp 18) (.tmp 23) 22 24 rfl Try.underlying22 HI25.out (by decide) rfl rfl HBD.out ?_; intro v9 w9 hs9; have H6 := Ak hs9; clear hs9 H5)
        go_roundg (gk - 1)
        case measure => have := HI.out; omega
        case rel => exact ⟨i + 1, o ++ [y], by go_num, ⟨by have := HI.out; omega⟩, ⟨by rw [List.append_assoc]; exact HF3.out⟩, ⟨by have := HO.out; simp; omega⟩, H6⟩
    · have hi1 : ¬ (i : Int) < (L.length : Int) := by omega
      have hf := HF.out; rw [List.drop_of_length_le (by omega)] at hf
      have HF2 := Ak (show o = fin from by rw [← hf]; simp [underL]); clear hf HF
      go_wp2
      go_ret
      rw [← HF2.out]
      exact ⟨_, rfl, rowS_out H2.out (i := 0) rfl, H2.out.below⟩
def underErr (V : Int) (L : List (List Int)) (n : Int) : Int := if (checkFormula V L).2 = 0 then (if n ≠ 0 ∧ wrap64 (-V) ≤ n ∧ n ≤ V then 0 else 2) else (checkFormula V L).2
def cnf_Under.f (a0_0 : Int) (l0_1 : List (List Int)) (a1 : Int) : Option (Int × List (List Int) × Int) := some (if underErr a0_0 l0_1 a1 = 0 then (a0_0, underL a1 l0_1, 0) else (0, [], underErr a0_0 l0_1 a1))
set_option maxHeartbeats 8000000 in
set_option maxRecDepth 100000 in
theorem cnf_Under.calls (a0_0 : Int) (A0_1 : Option Addr) (c0_1 : Nat) (l0_1 : List (List Int)) (a1 : Int) (r1 : Int) (r2 : List (List Int)) (r3 : Int) (w : World) (hr0_1 : Kd.C (Kd.slice 3 (Kd.int .i64)) w A0_1 l0_1.length l0_1) (hc0_1 : l0_1.length ≤ c0_1) (h : cnf_Under.f a0_0 l0_1 a1 = some (r1, r2, r3)) :
    Calls Try.prog 26 #[.agg #[.int .i64 a0_0, .slice A0_1 l0_1.length c0_1], .int .i64 a1] w fun e w' => ∃ v1_ : Value, e = .returned (.tuple #[.agg #[.int .i64 r1, v1_], .int .i64 r3]) ∧ Kd.S (Kd.slice 3 (Kd.int .i64)) 25 w' w.heap.size (fun _ => True) v1_ r2 ∧ Below w.heap.size w w' := by
  have hE := Option.some.inj h
  clear h
  have HR := Ak hr0_1
  have h0 := ((St.start w).box_new 24 #[.int .i64 a0_0, .slice A0_1 l0_1.length c0_1]).box_new 24 #[.int .i64 0, .slice none 0 0]
  rw [show (w.alloc (.cells #[.int .i64 a0_0, .slice A0_1 l0_1.length c0_1] 24)).heap.size = w.heap.size + 1 from by simp] at h0
  have H0 := Ak h0; clear h0
  clear hr0_1
  have hu24 := Try.underlying24
  obtain ⟨e1, he1⟩ : ∃ e1 : Int, e1 = (checkFormula a0_0 l0_1).2 := ⟨_, rfl⟩
  obtain ⟨b, hb⟩ : ∃ b : Bool, b = decide (a1 ≠ 0 ∧ wrap64 (-a0_0) ≤ a1 ∧ a1 ≤ a0_0) := ⟨_, rfl⟩
  obtain ⟨e2, he2⟩ : ∃ e2 : Int, e2 = if b = true then 0 else 2 := ⟨_, rfl⟩
  obtain ⟨e3, he3⟩ : ∃ e3 : Int, e3 = if e1 = 0 then e2 else e1 := ⟨_, rfl⟩
  have hU : underErr a0_0 l0_1 a1 = e3 := by unfold underErr; rw [he3, he1, he2, hb]; simp only [decide_eq_true_eq]
  have E1 := Ak he1; have E2 := Ak he2; have E3 := Ak he3; have HB := Ak hb
  rw [hU] at hE
  have HE := Ak hE
  clear he1 he2 he3 hb hU hE
  go_enter Try.func26, Try.ntmps26
  go_upto_region 1 with fail
  generalize hgf : w.heap.size = gf at H0 ⊢
  generalize World.alloc (World.alloc _ _) _ = w1 at H0 ⊢
  generalize hgr : gf + 1 = gr at H0 ⊢
  subst hgf
  have q0 := H0.out.box_cell (i := 1) rfl 0
  have q1 := H0.out.box_cell (i := 1) rfl 1
  simp only [List.getElem?_toArray, List.getElem?_cons_zero, List.getElem?_cons_succ] at q0 q1
  go_wp2_with fail
  with_reducible refine (cnf_formulaErr.calls a0_0 A0_1 c0_1 l0_1 e1 _ (Kd.C_below HR.out H0.out.below) hc0_1 (by rw [formulaErr_f, E1.out])).mono ?_
  clear q0 q1
  rintro e w2 ⟨rfl, hb⟩
  have H1 := Ak (H0.out.mv hb); clear hb H0
  have q0 := H1.out.box_cell (i := 1) rfl 0
  simp only [List.getElem?_toArray, List.getElem?_cons_zero, List.getElem?_cons_succ] at q0
  have HU : Aside0 (cnf_unless.f b 2 = some e2) := ⟨by rw [unless_dec, E2.out]⟩
  have key : ∀ (w3 : World) (P1 : Prop), True := fun _ _ => trivial
  clear key
  by_cases hn : a1 = 0
  · have hn0 : (a1 != 0) = false := by simp [hn]
    have hbf : b = false := by rw [HB.out]; simp [hn]
    have HBF := Ak hbf; clear hbf hn
    go_wp2_with fail
    rw [← HBF.out]
    with_reducible refine (cnf_unless.calls b 2 e2 _ HU.out).mono ?_
    clear q0
    rintro e w3 ⟨rfl, hb⟩
    have H2 := Ak (H1.out.mv hb.below); clear hb H1
    go_wp2_with fail
    have H3 := Ak (H2.out.box_new 28 #[.int .i64 e1, .int .i64 e2]); clear H2
    generalize w3.heap.size = gq at H3 ⊢
    generalize World.alloc _ _ = w4 at H3 ⊢
    have hf := cnf_first.calls 3 _ 2 [e1, e2] e3 _ (C_of_block (k := .i64) (H3.out.box_at (i := 0) rfl).1 (by simp)) (by simp) (by rw [first2, E3.out])
    rw [show ([e1, e2] : List Int).length = 2 from rfl] at hf
    have HF := Ak hf; clear hf
    with_reducible refine (HF.out).mono ?_
    clear HF
    rintro e w5 ⟨rfl, hb⟩
    have H4 := Ak ((H3.out.mv hb.below).drop 0); clear hb H3
    simp only [List.eraseIdx] at H4
    by_cases he : e3 = 0
    · have he0 : (e3 != 0) = false := bne_eq_false_iff_eq.2 he
      have hx := HE.out; rw [if_pos he] at hx
      obtain ⟨x1, x2, x3⟩ : a0_0 = r1 ∧ underL a1 l0_1 = r2 ∧ 0 = r3 := by simpa using hx
      have hok : (checkFormula a0_0 l0_1).2 = 0 := by
        have := E3.out; rw [he] at this; rw [← E1.out]
        by_cases h : e1 = 0
        · exact h
        · rw [if_neg h] at this; exact this.symm
      obtain ⟨_, g2, g3, _, _⟩ := formula_sv (fuel := 0) hok
      have hu := fun W h0 => under57 A0_1 c0_1 l0_1 a1 W h0 g2 g3
      rw [x2] at hu
      have X3 := Ak x3; have HUN := Ak hu
      subst x1
      clear he hx x2 x3 hok g2 g3 hu
      go_wp2
      have n0 := H4.out.box_cell (i := 1) rfl 0; have n1 := H4.out.box_cell (i := 1) rfl 1
      simp only [List.getElem?_toArray, List.getElem?_cons_zero, List.getElem?_cons_succ] at n0 n1
      have N0 := Ak n0; have N1 := Ak n1; clear n0 n1
      have n0_ := Ak H4.out.drew
      clear H4
      have H4 := n0_
      clear n0_
      refine start_ (n := 9) (S := fun w' => w'.cell? ⟨w.heap.size, 0, none⟩ = some (.int .i64 a0_0) ∧ w'.cell? ⟨w.heap.size, 1, none⟩ = some (.slice A0_1 l0_1.length c0_1)) (ds := [7]) #[false, false, false, false, false, false, false, false, false] (by kernel_rfl) rfl rfl (⟨N0.out, N1.out⟩) (fun hHeld => ?_)
      generalize World.drew _ = w_0 at H4 hHeld ⊢
      refine pure_ (i := 0) (N := some 27) (v := ?_) (a' := ?_) #[true, false, false, false, false, false, false, false, false] rfl rfl (by kernel_rfl) (fun _ _ _ h => h) (Or.inl ⟨by rfl, ?_⟩) ?_ ?_
      rotate_left
      · intro w'
        go_simp
        with_reducible rfl
      rotate_left
      · (try simp only [Act.put, La, Lb, Lc, i64_w, i32_w])
        rfl
      refine take_ (i := 1) (N := some 28) (v := ?_) (a' := ?_) #[true, true, false, false, false, false, false, false, false] rfl rfl (by kernel_rfl) (fun _ _ _ h => h) (Or.inl ⟨by rfl, ?_⟩) hHeld ?_ ?_
      rotate_left
      · rintro w' ⟨h0, h1⟩
        go_simp
        with_reducible rfl
      rotate_left
      · (try simp only [Act.put, La, Lb, Lc, i64_w, i32_w])
        rfl
      refine pure_ (i := 2) (N := some 29) (v := ?_) (a' := ?_) #[true, true, true, false, false, false, false, false, false] rfl rfl (by kernel_rfl) (fun _ _ _ h => h) (Or.inl ⟨by rfl, ?_⟩) ?_ ?_
      rotate_left
      · intro w'
        go_simp
        with_reducible rfl
      rotate_left
      · (try simp only [Act.put, La, Lb, Lc, i64_w, i32_w])
        rfl
      refine take_ (i := 3) (N := some 30) (v := ?_) (a' := ?_) #[true, true, true, true, false, false, false, false, false] rfl rfl (by kernel_rfl) (fun _ _ _ h => h) (Or.inl ⟨by rfl, ?_⟩) hHeld ?_ ?_
      rotate_left
      · rintro w' ⟨h0, h1⟩
        go_simp
        with_reducible rfl
      rotate_left
      · (try simp only [Act.put, La, Lb, Lc, i64_w, i32_w])
        rfl
      refine pure_ (i := 4) (N := some 31) (v := ?_) (a' := ?_) #[true, true, true, true, true, false, false, false, false] rfl rfl (by kernel_rfl) (fun _ _ _ h => h) (Or.inl ⟨by rfl, ?_⟩) ?_ ?_
      rotate_left
      · intro w'
        go_simp
        with_reducible rfl
      rotate_left
      · (try simp only [Act.put, La, Lb, Lc, i64_w, i32_w])
        rfl
      refine one_ (i := 5) (N := some 32) #[true, true, true, true, true, true, false, false, false] rfl rfl (by kernel_rfl) (by decide) (fun K hK => ?_)
      refine goes_ Try.func57 (by kernel_rfl) rfl ?args_2 (by rfl) rfl rfl ?hargs_2 ?main_2
      rotate_left 2
      with_reducible refine (HUN.out _ (Kd.C_below HR.out H4.out.below)).mono ?_
      case hargs_2 => ((try simp only [List.map_toArray, List.map_cons, List.map_nil]); first | done | rfl)
      rintro e w_1 ⟨v57, rfl, hR, hb⟩
      refine ⟨_, rfl, ?_⟩
      have n0_ := Ak (rowS_new H4.out hb hR)
      clear H4
      have H4 := n0_
      clear n0_
      clear hHeld
      (try clear hb)
      refine hK.out _ _ ((by have n0 := H4.out.box_cell (i := 2) rfl 0; have n1 := H4.out.box_cell (i := 2) rfl 1; simp only [List.getElem?_toArray, List.getElem?_cons_zero, List.getElem?_cons_succ] at n0 n1; exact ⟨n0, n1⟩)) (fun hHeld => ?_)
      clear hK K
      refine norm_ (a' := ?_) ?_ ?_
      rotate_left
      · show Act.put _ (some 32) _ = _
        (try simp only [Act.put, La, Lb, Lc, i64_w, i32_w])
        rfl
      obtain ⟨Au, cu, rfl, hcu, _⟩ := rowS_reads H4.out (i := 0) rfl
      refine pure_ (i := 6) (N := some 33) (v := ?_) (a' := ?_) #[true, true, true, true, true, true, true, false, false] rfl rfl (by kernel_rfl) (fun _ _ _ h => h) (Or.inl ⟨by rfl, ?_⟩) ?_ ?_
      rotate_left
      · intro w'
        go_simp
        with_reducible rfl
      rotate_left
      · (try simp only [Act.put, La, Lb, Lc, i64_w, i32_w])
        rfl
      refine last_ (i := 7) (N := none) #[true, true, true, true, true, true, true, true, false] rfl rfl (by kernel_rfl) (by decide) (fun K hK => ?_)
      refine skip_ (w1 := (w_1.setCell ⟨gr, 0, none⟩ (.int .i64 a0_0)).setCell ⟨gr, 1, none⟩ (.slice Au r2.length cu)) (by rfl) rfl ?run_4 ?main_4
      · have k1 := H4.out.box_cell (i := 1) rfl 0
        have k2 := H4.out.box_free (i := 1) rfl 0
        have k3 := H4.out.box_cell (i := 1) rfl 1
        have k4 := H4.out.box_free (i := 1) rfl 1
        simp only [List.getElem?_toArray, List.getElem?_cons_zero, List.getElem?_cons_succ] at k1 k3
        first | (go_simp; done) | (go_simp; rfl)
      have n0_ := (H4.out.box_set (i := 1) rfl 0 (.int .i64 a0_0)).box_set (i := 1) rfl 1 (.slice Au r2.length cu)
      (try simp only [List.set, La, Lb, Lc, List.length_append, List.length_cons, List.length_nil] at n0_)
      have n1_ := Ak n0_
      clear n0_ H4
      have H4 := n1_
      clear n1_
      (try clear hHeld)
      refine hK.out _ _ ?_
      clear hK K
      generalize ((w_1.setCell ⟨gr, 0, none⟩ (.int .i64 a0_0)).setCell ⟨gr, 1, none⟩ (.slice Au r2.length cu)) = w_3 at H4 ⊢
      refine pure_ (i := 8) (N := some 5) (v := ?_) (a' := ?_) #[true, true, true, true, true, true, true, true, true] rfl rfl (by kernel_rfl) (fun _ _ _ h => h) (Or.inl ⟨by rfl, ?_⟩) ?_ ?_
      rotate_left
      · intro w'
        go_simp
        with_reducible rfl
      rotate_left
      · (try simp only [Act.put, La, Lb, Lc, i64_w, i32_w])
        rfl
      refine done_ (by kernel_rfl) ?_
      go_wp2
      rw [← X3.out]
      refine bodyPost_ret (results_ct rfl _ _ gr 24 #[.int .i64 a0_0, .slice Au r2.length cu] (0, 0) _ rfl (H4.out.box_at (i := 1) rfl).1 Try.underlying24 rfl (by kernel_rfl)) rfl ?_
      exact ⟨_, rfl, rowS_out H4.out (i := 0) rfl, H4.out.below⟩
    · have he0 : (e3 != 0) = true := bne_iff_ne.2 he
      have hx := HE.out; rw [if_neg he] at hx
      obtain ⟨x1, x2, x3⟩ : 0 = r1 ∧ [] = r2 ∧ e3 = r3 := by simpa using hx
      subst x1; subst x2; subst x3
      clear he hx
      have q0 := H4.out.box_cell (i := 0) rfl 0
      have q1 := H4.out.box_free (i := 0) rfl 0
      have q2 := H4.out.box_cell (i := 0) rfl 1
      have q3 := H4.out.box_free (i := 0) rfl 1
      simp only [List.getElem?_toArray, List.getElem?_cons_zero, List.getElem?_cons_succ] at q0 q2
      go_wp2
      have H5 := Ak ((H4.out.box_set (i := 0) rfl 0 (.int .i64 0)).box_set (i := 0) rfl 1 (.slice none 0 0))
      simp only [List.set, La] at H5
      clear q0 q1 q2 q3 H4
      generalize World.setCell (World.setCell _ _ _) _ _ = w6 at H5 ⊢
      refine bodyPost_ret (results_ct rfl _ _ gr 24 #[.int .i64 0, .slice none 0 0] (0, 0) _ rfl (H5.out.box_at (i := 0) rfl).1 Try.underlying24 rfl (by kernel_rfl)) rfl ?_
      exact ⟨_, rfl, Kd.S_nil _ _ _ _ _, H5.out.below⟩
  · have hn0 : (a1 != 0) = true := by simp [hn]
    have hbt : cnf_within.f a1 (wrap64 (-a0_0)) a0_0 = some b := by rw [within_dec, HB.out]; simp [hn]
    have HBF := Ak hbt; clear hbt hn
    go_wp2_with fail
    with_reducible refine (cnf_within.calls a1 (wrap64 (-a0_0)) a0_0 b _ HBF.out).mono ?_
    clear q0
    rintro e w3 ⟨rfl, hb⟩
    have H2 := Ak (H1.out.mv hb.below); clear hb H1
    go_wp2_with fail
    with_reducible refine (cnf_unless.calls b 2 e2 _ HU.out).mono ?_
    rintro e w3 ⟨rfl, hb⟩
    have H2b := Ak (H2.out.mv hb.below); clear hb H2
    have H2 := H2b; clear H2b
    go_wp2_with fail
    have H3 := Ak (H2.out.box_new 28 #[.int .i64 e1, .int .i64 e2]); clear H2
    generalize w3.heap.size = gq at H3 ⊢
    generalize World.alloc _ _ = w4 at H3 ⊢
    have hf := cnf_first.calls 3 _ 2 [e1, e2] e3 _ (C_of_block (k := .i64) (H3.out.box_at (i := 0) rfl).1 (by simp)) (by simp) (by rw [first2, E3.out])
    rw [show ([e1, e2] : List Int).length = 2 from rfl] at hf
    have HF := Ak hf; clear hf
    with_reducible refine (HF.out).mono ?_
    clear HF
    rintro e w5 ⟨rfl, hb⟩
    have H4 := Ak ((H3.out.mv hb.below).drop 0); clear hb H3
    simp only [List.eraseIdx] at H4
    by_cases he : e3 = 0
    · have he0 : (e3 != 0) = false := bne_eq_false_iff_eq.2 he
      have hx := HE.out; rw [if_pos he] at hx
      obtain ⟨x1, x2, x3⟩ : a0_0 = r1 ∧ underL a1 l0_1 = r2 ∧ 0 = r3 := by simpa using hx
      have hok : (checkFormula a0_0 l0_1).2 = 0 := by
        have := E3.out; rw [he] at this; rw [← E1.out]
        by_cases h : e1 = 0
        · exact h
        · rw [if_neg h] at this; exact this.symm
      obtain ⟨_, g2, g3, _, _⟩ := formula_sv (fuel := 0) hok
      have hu := fun W h0 => under57 A0_1 c0_1 l0_1 a1 W h0 g2 g3
      rw [x2] at hu
      have X3 := Ak x3; have HUN := Ak hu
      subst x1
      clear he hx x2 x3 hok g2 g3 hu
      go_wp2
      have n0 := H4.out.box_cell (i := 1) rfl 0; have n1 := H4.out.box_cell (i := 1) rfl 1
      simp only [List.getElem?_toArray, List.getElem?_cons_zero, List.getElem?_cons_succ] at n0 n1
      have N0 := Ak n0; have N1 := Ak n1; clear n0 n1
      have n0_ := Ak H4.out.drew
      clear H4
      have H4 := n0_
      clear n0_
      refine start_ (n := 9) (S := fun w' => w'.cell? ⟨w.heap.size, 0, none⟩ = some (.int .i64 a0_0) ∧ w'.cell? ⟨w.heap.size, 1, none⟩ = some (.slice A0_1 l0_1.length c0_1)) (ds := [7]) #[false, false, false, false, false, false, false, false, false] (by kernel_rfl) rfl rfl (⟨N0.out, N1.out⟩) (fun hHeld => ?_)
      generalize World.drew _ = w_5 at H4 hHeld ⊢
      refine pure_ (i := 0) (N := some 27) (v := ?_) (a' := ?_) #[true, false, false, false, false, false, false, false, false] rfl rfl (by kernel_rfl) (fun _ _ _ h => h) (Or.inl ⟨by rfl, ?_⟩) ?_ ?_
      rotate_left
      · intro w'
        go_simp
        with_reducible rfl
      rotate_left
      · (try simp only [Act.put, La, Lb, Lc, i64_w, i32_w])
        rfl
      refine take_ (i := 1) (N := some 28) (v := ?_) (a' := ?_) #[true, true, false, false, false, false, false, false, false] rfl rfl (by kernel_rfl) (fun _ _ _ h => h) (Or.inl ⟨by rfl, ?_⟩) hHeld ?_ ?_
      rotate_left
      · rintro w' ⟨h0, h1⟩
        go_simp
        with_reducible rfl
      rotate_left
      · (try simp only [Act.put, La, Lb, Lc, i64_w, i32_w])
        rfl
      refine pure_ (i := 2) (N := some 29) (v := ?_) (a' := ?_) #[true, true, true, false, false, false, false, false, false] rfl rfl (by kernel_rfl) (fun _ _ _ h => h) (Or.inl ⟨by rfl, ?_⟩) ?_ ?_
      rotate_left
      · intro w'
        go_simp
        with_reducible rfl
      rotate_left
      · (try simp only [Act.put, La, Lb, Lc, i64_w, i32_w])
        rfl
      refine take_ (i := 3) (N := some 30) (v := ?_) (a' := ?_) #[true, true, true, true, false, false, false, false, false] rfl rfl (by kernel_rfl) (fun _ _ _ h => h) (Or.inl ⟨by rfl, ?_⟩) hHeld ?_ ?_
      rotate_left
      · rintro w' ⟨h0, h1⟩
        go_simp
        with_reducible rfl
      rotate_left
      · (try simp only [Act.put, La, Lb, Lc, i64_w, i32_w])
        rfl
      refine pure_ (i := 4) (N := some 31) (v := ?_) (a' := ?_) #[true, true, true, true, true, false, false, false, false] rfl rfl (by kernel_rfl) (fun _ _ _ h => h) (Or.inl ⟨by rfl, ?_⟩) ?_ ?_
      rotate_left
      · intro w'
        go_simp
        with_reducible rfl
      rotate_left
      · (try simp only [Act.put, La, Lb, Lc, i64_w, i32_w])
        rfl
      refine one_ (i := 5) (N := some 32) #[true, true, true, true, true, true, false, false, false] rfl rfl (by kernel_rfl) (by decide) (fun K hK => ?_)
      refine goes_ Try.func57 (by kernel_rfl) rfl ?args_7 (by rfl) rfl rfl ?hargs_7 ?main_7
      rotate_left 2
      with_reducible refine (HUN.out _ (Kd.C_below HR.out H4.out.below)).mono ?_
      case hargs_7 => ((try simp only [List.map_toArray, List.map_cons, List.map_nil]); first | done | rfl)
      rintro e w_6 ⟨v57, rfl, hR, hb⟩
      refine ⟨_, rfl, ?_⟩
      have n0_ := Ak (rowS_new H4.out hb hR)
      clear H4
      have H4 := n0_
      clear n0_
      clear hHeld
      (try clear hb)
      refine hK.out _ _ ((by have n0 := H4.out.box_cell (i := 2) rfl 0; have n1 := H4.out.box_cell (i := 2) rfl 1; simp only [List.getElem?_toArray, List.getElem?_cons_zero, List.getElem?_cons_succ] at n0 n1; exact ⟨n0, n1⟩)) (fun hHeld => ?_)
      clear hK K
      refine norm_ (a' := ?_) ?_ ?_
      rotate_left
      · show Act.put _ (some 32) _ = _
        (try simp only [Act.put, La, Lb, Lc, i64_w, i32_w])
        rfl
      obtain ⟨Au, cu, rfl, hcu, _⟩ := rowS_reads H4.out (i := 0) rfl
      refine pure_ (i := 6) (N := some 33) (v := ?_) (a' := ?_) #[true, true, true, true, true, true, true, false, false] rfl rfl (by kernel_rfl) (fun _ _ _ h => h) (Or.inl ⟨by rfl, ?_⟩) ?_ ?_
      rotate_left
      · intro w'
        go_simp
        with_reducible rfl
      rotate_left
      · (try simp only [Act.put, La, Lb, Lc, i64_w, i32_w])
        rfl
      refine last_ (i := 7) (N := none) #[true, true, true, true, true, true, true, true, false] rfl rfl (by kernel_rfl) (by decide) (fun K hK => ?_)
      refine skip_ (w1 := (w_6.setCell ⟨gr, 0, none⟩ (.int .i64 a0_0)).setCell ⟨gr, 1, none⟩ (.slice Au r2.length cu)) (by rfl) rfl ?run_9 ?main_9
      · have k1 := H4.out.box_cell (i := 1) rfl 0
        have k2 := H4.out.box_free (i := 1) rfl 0
        have k3 := H4.out.box_cell (i := 1) rfl 1
        have k4 := H4.out.box_free (i := 1) rfl 1
        simp only [List.getElem?_toArray, List.getElem?_cons_zero, List.getElem?_cons_succ] at k1 k3
        first | (go_simp; done) | (go_simp; rfl)
      have n0_ := (H4.out.box_set (i := 1) rfl 0 (.int .i64 a0_0)).box_set (i := 1) rfl 1 (.slice Au r2.length cu)
      (try simp only [List.set, La, Lb, Lc, List.length_append, List.length_cons, List.length_nil] at n0_)
      have n1_ := Ak n0_
      clear n0_ H4
      have H4 := n1_
      clear n1_
      (try clear hHeld)
      refine hK.out _ _ ?_
      clear hK K
      generalize ((w_6.setCell ⟨gr, 0, none⟩ (.int .i64 a0_0)).setCell ⟨gr, 1, none⟩ (.slice Au r2.length cu)) = w_8 at H4 ⊢
      refine pure_ (i := 8) (N := some 5) (v := ?_) (a' := ?_) #[true, true, true, true, true, true, true, true, true] rfl rfl (by kernel_rfl) (fun _ _ _ h => h) (Or.inl ⟨by rfl, ?_⟩) ?_ ?_
      rotate_left
      · intro w'
        go_simp
        with_reducible rfl
      rotate_left
      · (try simp only [Act.put, La, Lb, Lc, i64_w, i32_w])
        rfl
      refine done_ (by kernel_rfl) ?_
      go_wp2
      rw [← X3.out]
      refine bodyPost_ret (results_ct rfl _ _ gr 24 #[.int .i64 a0_0, .slice Au r2.length cu] (0, 0) _ rfl (H4.out.box_at (i := 1) rfl).1 Try.underlying24 rfl (by kernel_rfl)) rfl ?_
      exact ⟨_, rfl, rowS_out H4.out (i := 0) rfl, H4.out.below⟩
    · have he0 : (e3 != 0) = true := bne_iff_ne.2 he
      have hx := HE.out; rw [if_neg he] at hx
      obtain ⟨x1, x2, x3⟩ : 0 = r1 ∧ [] = r2 ∧ e3 = r3 := by simpa using hx
      subst x1; subst x2; subst x3
      clear he hx
      have q0 := H4.out.box_cell (i := 0) rfl 0
      have q1 := H4.out.box_free (i := 0) rfl 0
      have q2 := H4.out.box_cell (i := 0) rfl 1
      have q3 := H4.out.box_free (i := 0) rfl 1
      simp only [List.getElem?_toArray, List.getElem?_cons_zero, List.getElem?_cons_succ] at q0 q2
      go_wp2
      have H5 := Ak ((H4.out.box_set (i := 0) rfl 0 (.int .i64 0)).box_set (i := 0) rfl 1 (.slice none 0 0))
      simp only [List.set, La] at H5
      clear q0 q1 q2 q3 H4
      generalize World.setCell (World.setCell _ _ _) _ _ = w6 at H5 ⊢
      refine bodyPost_ret (results_ct rfl _ _ gr 24 #[.int .i64 0, .slice none 0 0] (0, 0) _ rfl (H5.out.box_at (i := 0) rfl).1 Try.underlying24 rfl (by kernel_rfl)) rfl ?_
      exact ⟨_, rfl, Kd.S_nil _ _ _ _ _, H5.out.below⟩
def ratchetbase_Lists.l0 : Nat → List (List Int) → List (List Int) → Int → Option (Bool)
  | 0, _, _, _ => none
  | k + 1, x0, x1, x5 => if x5 < (x0.length : Int) then (if 0 ≤ x5 then (if x5 < (x1.length : Int) then ((ratchetbase_Ints.f k (rd_L1 x0 x5) (rd_L1 x1 x5)).bind fun t227 => (if t227 = true then (ratchetbase_Lists.l0 k x0 x1 (wrap64 (x5 + 1))) else (some false))) else (none)) else (none)) else (some true)
def ratchetbase_Lists.f (k : Nat) (l0 : List (List Int)) (l1 : List (List Int)) : Option (Bool) := if (l0.length : Int) = (l1.length : Int) then (ratchetbase_Lists.l0 k l0 l1 0) else (some false)
set_option maxHeartbeats 8000000 in
set_option maxRecDepth 100000 in
theorem ratchetbase_Lists.calls (k : Nat) (A0 : Option Addr) (c0 : Nat) (l0 : List (List Int)) (A1 : Option Addr) (c1 : Nat) (l1 : List (List Int)) (r : Bool) (w : World) (hr0 : Kd.C (Kd.slice 3 (Kd.int .i64)) w A0 l0.length l0) (hc0 : l0.length ≤ c0) (hr1 : Kd.C (Kd.slice 3 (Kd.int .i64)) w A1 l1.length l1) (hc1 : l1.length ≤ c1) (h : ratchetbase_Lists.f k l0 l1 = some r) :
    Calls Try.prog 58 #[.slice A0 l0.length c0, .slice A1 l1.length c1] w fun e w' => e = .returned (.bool r) ∧ Drawn0 w w' := by
  have HR0 := Ak hr0
  have HC0 := Ak hc0
  clear hr0 hc0
  have HR1 := Ak hr1
  have HC1 := Ak hc1
  clear hr1 hc1
  have H : (if (l0.length : Int) = (l1.length : Int) then (ratchetbase_Lists.l0 k l0 l1 0) else (some false)) = some r := h
  clear h
  by_cases c3 : (l0.length : Int) = (l1.length : Int)
  · rw [if_pos c3] at H
    have c3b0 : ((l0.length : Int) == (l1.length : Int)) = true := beq_iff_eq.mpr c3
    have c3b1 : ((l0.length : Int) != (l1.length : Int)) = false := bne_eq_false_iff_eq.mpr c3
    have c3b2 : (l0.length == l1.length) = true := by first | simpa using c3 | (simp at c3 ⊢; omega)
    clear c3
    have H' := Ak H
    clear H
    go_enter Try.func58, Try.ntmps58
    go_wp2
    repeat (go_quiet (fail); try go_wp2)
    go_loopg [5] k (fun kq v5 w' => ∃ (x5_1 : Int), v5 = .int .i64 x5_1 ∧ Aside0 (ratchetbase_Lists.l0 kq l0 l1 x5_1 = some r) ∧ Aside0 (kq ≤ k) ∧ Drawn0 w w')
    case atStart => exact ⟨(0), (by first | rfl | (simp; done) | (simp [*]; done)), H', ⟨Nat.le_refl _⟩, by repeat (first | exact Drawn0.refl _ | apply Drawn0.step)⟩
    case round =>
      clear H'
      try clear c1
      try clear p2
      try clear c3
      try clear c3b0
      try clear c3b1
      try clear c3b2
      obtain ⟨x5_1, rfl, HA, HK1, ⟨m1, rfl⟩⟩ := hrel
      cases gk with
      | zero => exact absurd HA.out (by simp [ratchetbase_Lists.l0])
      | succ k1 =>
        have H := HA.out
        clear HA
        simp only [ratchetbase_Lists.l0] at H
        by_cases c4 : x5_1 < (l0.length : Int)
        · rw [if_pos c4] at H
          have c4b0 : decide (x5_1 < (l0.length : Int)) = true := decide_eq_true c4
          clear c4
          by_cases c5 : 0 ≤ x5_1
          · rw [if_pos c5] at H
            have c5b0 : decide (0 ≤ x5_1) = true := decide_eq_true c5
            clear c5
            by_cases c6 : x5_1 < (l1.length : Int)
            · rw [if_pos c6] at H
              have c6b0 : decide (x5_1 < (l1.length : Int)) = true := decide_eq_true c6
              clear c6
              replace H := Option.bind_eq_some_iff.mp H
              obtain ⟨t227, A70, H⟩ := H
              replace H : (if t227 = true then (ratchetbase_Lists.l0 k1 l0 l1 (wrap64 (x5_1 + 1))) else (some false)) = some r := H
              have A7 := Ak A70
              clear A70
              by_cases c8 : t227 = true
              · subst c8
                have H1 : (ratchetbase_Lists.l0 k1 l0 l1 (wrap64 (x5_1 + 1))) = some r := by rw [if_pos rfl] at H; exact H
                clear H
                have H := H1
                clear H1
                have H' := Ak H
                clear H
                have p225 : 0 ≤ (x5_1 : Int) := of_decide_eq_true (by first | (with_reducible assumption) | assumption)
                have q225 : x5_1 < (l0.length : Int) := of_decide_eq_true (by first | (with_reducible assumption) | assumption)
                obtain ⟨ad225, A225_0, c225_0, e225, hx225_0, hl225_0, hi225_0⟩ := at_L1 HR0.out x5_1 p225 q225
                cases e225
                have HR225_0 := Ak hi225_0
                have HC225_0 := Ak hl225_0
                clear hi225_0 hl225_0
                replace p225 := eq_true p225
                replace q225 := eq_true q225
                have p226 : 0 ≤ (x5_1 : Int) := of_decide_eq_true (by first | (with_reducible assumption) | assumption)
                have q226 : x5_1 < (l1.length : Int) := of_decide_eq_true (by first | (with_reducible assumption) | assumption)
                obtain ⟨ad226, A226_0, c226_0, e226, hx226_0, hl226_0, hi226_0⟩ := at_L1 HR1.out x5_1 p226 q226
                cases e226
                have HR226_0 := Ak hi226_0
                have HC226_0 := Ak hl226_0
                clear hi226_0 hl226_0
                replace p226 := eq_true p226
                replace q226 := eq_true q226
                go_wp2_with (first | (go_at_call 14; (with_reducible refine (ratchetbase_Ints.calls k1 _ _ (rd_L1 l0 x5_1) _ _ (rd_L1 l1 x5_1) true _ ?side1 ?side2 ?side3 ?side4 A7.out).mono ?_); (case side1 => repeat (first | exact HR225_0.out | (with_reducible refine Kd.C_alloc ?_ _) | (with_reducible refine Kd.C_drewN ?_ _) | (with_reducible refine Kd.C_drew ?_))); (case side2 => exact HC225_0.out); (case side3 => repeat (first | exact HR226_0.out | (with_reducible refine Kd.C_alloc ?_ _) | (with_reducible refine Kd.C_drewN ?_ _) | (with_reducible refine Kd.C_drew ?_))); (case side4 => exact HC226_0.out); rintro e w' ⟨rfl, ⟨nd, rfl⟩⟩; (try first | exact ⟨rfl, _, World.drewN_drewN _ _ _⟩ | exact ⟨rfl, _, Eq.trans (World.drewN_drewN _ _ _) (congrArg (World.drewN _) (Nat.add_assoc _ _ _))⟩)))
                repeat (go_quiet (first | (go_at_call 14; (with_reducible refine (ratchetbase_Ints.calls k1 _ _ (rd_L1 l0 x5_1) _ _ (rd_L1 l1 x5_1) true _ ?side1 ?side2 ?side3 ?side4 A7.out).mono ?_); (case side1 => repeat (first | exact HR225_0.out | (with_reducible refine Kd.C_alloc ?_ _) | (with_reducible refine Kd.C_drewN ?_ _) | (with_reducible refine Kd.C_drew ?_))); (case side2 => exact HC225_0.out); (case side3 => repeat (first | exact HR226_0.out | (with_reducible refine Kd.C_alloc ?_ _) | (with_reducible refine Kd.C_drewN ?_ _) | (with_reducible refine Kd.C_drew ?_))); (case side4 => exact HC226_0.out); rintro e w' ⟨rfl, ⟨nd, rfl⟩⟩; (try first | exact ⟨rfl, _, World.drewN_drewN _ _ _⟩ | exact ⟨rfl, _, Eq.trans (World.drewN_drewN _ _ _) (congrArg (World.drewN _) (Nat.add_assoc _ _ _))⟩))); try go_wp2_with (first | (go_at_call 14; (with_reducible refine (ratchetbase_Ints.calls k1 _ _ (rd_L1 l0 x5_1) _ _ (rd_L1 l1 x5_1) true _ ?side1 ?side2 ?side3 ?side4 A7.out).mono ?_); (case side1 => repeat (first | exact HR225_0.out | (with_reducible refine Kd.C_alloc ?_ _) | (with_reducible refine Kd.C_drewN ?_ _) | (with_reducible refine Kd.C_drew ?_))); (case side2 => exact HC225_0.out); (case side3 => repeat (first | exact HR226_0.out | (with_reducible refine Kd.C_alloc ?_ _) | (with_reducible refine Kd.C_drewN ?_ _) | (with_reducible refine Kd.C_drew ?_))); (case side4 => exact HC226_0.out); rintro e w' ⟨rfl, ⟨nd, rfl⟩⟩; (try first | exact ⟨rfl, _, World.drewN_drewN _ _ _⟩ | exact ⟨rfl, _, Eq.trans (World.drewN_drewN _ _ _) (congrArg (World.drewN _) (Nat.add_assoc _ _ _))⟩))))
                go_roundg k1
                case measure => have := HK1.out; omega
                case rel => exact ⟨(wrap64 (x5_1 + 1)), (by first | rfl | (simp; done) | (simp [*]; done)), H', ⟨by have := HK1.out; omega⟩, by repeat (first | exact Drawn0.refl _ | apply Drawn0.step)⟩
              · replace c8 := Bool.eq_false_iff.mpr c8
                subst c8
                have H1 : (some false) = some r := by rw [if_neg (show ¬ (false = true) by decide)] at H; exact H
                clear H
                have H := H1
                clear H1
                obtain rfl := Option.some.inj H
                have p225 : 0 ≤ (x5_1 : Int) := of_decide_eq_true (by first | (with_reducible assumption) | assumption)
                have q225 : x5_1 < (l0.length : Int) := of_decide_eq_true (by first | (with_reducible assumption) | assumption)
                obtain ⟨ad225, A225_0, c225_0, e225, hx225_0, hl225_0, hi225_0⟩ := at_L1 HR0.out x5_1 p225 q225
                cases e225
                have HR225_0 := Ak hi225_0
                have HC225_0 := Ak hl225_0
                clear hi225_0 hl225_0
                replace p225 := eq_true p225
                replace q225 := eq_true q225
                have p226 : 0 ≤ (x5_1 : Int) := of_decide_eq_true (by first | (with_reducible assumption) | assumption)
                have q226 : x5_1 < (l1.length : Int) := of_decide_eq_true (by first | (with_reducible assumption) | assumption)
                obtain ⟨ad226, A226_0, c226_0, e226, hx226_0, hl226_0, hi226_0⟩ := at_L1 HR1.out x5_1 p226 q226
                cases e226
                have HR226_0 := Ak hi226_0
                have HC226_0 := Ak hl226_0
                clear hi226_0 hl226_0
                replace p226 := eq_true p226
                replace q226 := eq_true q226
                go_wp2_with (first | (go_at_call 14; (with_reducible refine (ratchetbase_Ints.calls k1 _ _ (rd_L1 l0 x5_1) _ _ (rd_L1 l1 x5_1) false _ ?side1 ?side2 ?side3 ?side4 A7.out).mono ?_); (case side1 => repeat (first | exact HR225_0.out | (with_reducible refine Kd.C_alloc ?_ _) | (with_reducible refine Kd.C_drewN ?_ _) | (with_reducible refine Kd.C_drew ?_))); (case side2 => exact HC225_0.out); (case side3 => repeat (first | exact HR226_0.out | (with_reducible refine Kd.C_alloc ?_ _) | (with_reducible refine Kd.C_drewN ?_ _) | (with_reducible refine Kd.C_drew ?_))); (case side4 => exact HC226_0.out); rintro e w' ⟨rfl, ⟨nd, rfl⟩⟩; (try first | exact ⟨rfl, _, World.drewN_drewN _ _ _⟩ | exact ⟨rfl, _, Eq.trans (World.drewN_drewN _ _ _) (congrArg (World.drewN _) (Nat.add_assoc _ _ _))⟩)))
                repeat (go_quiet (first | (go_at_call 14; (with_reducible refine (ratchetbase_Ints.calls k1 _ _ (rd_L1 l0 x5_1) _ _ (rd_L1 l1 x5_1) false _ ?side1 ?side2 ?side3 ?side4 A7.out).mono ?_); (case side1 => repeat (first | exact HR225_0.out | (with_reducible refine Kd.C_alloc ?_ _) | (with_reducible refine Kd.C_drewN ?_ _) | (with_reducible refine Kd.C_drew ?_))); (case side2 => exact HC225_0.out); (case side3 => repeat (first | exact HR226_0.out | (with_reducible refine Kd.C_alloc ?_ _) | (with_reducible refine Kd.C_drewN ?_ _) | (with_reducible refine Kd.C_drew ?_))); (case side4 => exact HC226_0.out); rintro e w' ⟨rfl, ⟨nd, rfl⟩⟩; (try first | exact ⟨rfl, _, World.drewN_drewN _ _ _⟩ | exact ⟨rfl, _, Eq.trans (World.drewN_drewN _ _ _) (congrArg (World.drewN _) (Nat.add_assoc _ _ _))⟩))); try go_wp2_with (first | (go_at_call 14; (with_reducible refine (ratchetbase_Ints.calls k1 _ _ (rd_L1 l0 x5_1) _ _ (rd_L1 l1 x5_1) false _ ?side1 ?side2 ?side3 ?side4 A7.out).mono ?_); (case side1 => repeat (first | exact HR225_0.out | (with_reducible refine Kd.C_alloc ?_ _) | (with_reducible refine Kd.C_drewN ?_ _) | (with_reducible refine Kd.C_drew ?_))); (case side2 => exact HC225_0.out); (case side3 => repeat (first | exact HR226_0.out | (with_reducible refine Kd.C_alloc ?_ _) | (with_reducible refine Kd.C_drewN ?_ _) | (with_reducible refine Kd.C_drew ?_))); (case side4 => exact HC226_0.out); rintro e w' ⟨rfl, ⟨nd, rfl⟩⟩; (try first | exact ⟨rfl, _, World.drewN_drewN _ _ _⟩ | exact ⟨rfl, _, Eq.trans (World.drewN_drewN _ _ _) (congrArg (World.drewN _) (Nat.add_assoc _ _ _))⟩))))
                go_ret
                exact ⟨by first | rfl | (simp; done) | (simp [*]; done), by repeat (first | exact Drawn0.refl _ | apply Drawn0.step)⟩
            · rw [if_neg c6] at H
              exact absurd H (by simp)
          · rw [if_neg c5] at H
            exact absurd H (by simp)
        · rw [if_neg c4] at H
          have c4b0 : decide (x5_1 < (l0.length : Int)) = false := decide_eq_false c4
          clear c4
          obtain rfl := Option.some.inj H
          go_wp2
          repeat (go_quiet (fail); try go_wp2)
          go_ret
          exact ⟨by first | rfl | (simp; done) | (simp [*]; done), by repeat (first | exact Drawn0.refl _ | apply Drawn0.step)⟩
  · rw [if_neg c3] at H
    have c3b0 : ((l0.length : Int) == (l1.length : Int)) = false := beq_eq_false_iff_ne.mpr c3
    have c3b1 : ((l0.length : Int) != (l1.length : Int)) = true := bne_iff_ne.mpr c3
    have c3b2 : (l0.length == l1.length) = false := by first | simpa using c3 | (simp at c3 ⊢; omega)
    obtain rfl := Option.some.inj H
    go_enter Try.func58, Try.ntmps58
    go_wp2
    repeat (go_quiet (fail); try go_wp2)
    go_ret
    exact ⟨by first | rfl | (simp; done) | (simp [*]; done), by repeat (first | exact Drawn0.refl _ | apply Drawn0.step)⟩
def ratchetref03_Same.f (k : Nat) (a0_0 : Int) (l0_1 : List (List Int)) (a1_0 : Int) (l1_1 : List (List Int)) : Option (Bool) := if a0_0 = a1_0 then ((ratchetbase_Lists.f k l0_1 l1_1).bind fun t230 => (some t230)) else (some false)
set_option maxHeartbeats 8000000 in
set_option maxRecDepth 100000 in
theorem ratchetref03_Same.calls (k : Nat) (a0_0 : Int) (A0_1 : Option Addr) (c0_1 : Nat) (l0_1 : List (List Int)) (a1_0 : Int) (A1_1 : Option Addr) (c1_1 : Nat) (l1_1 : List (List Int)) (r : Bool) (w : World) (hr0_1 : Kd.C (Kd.slice 3 (Kd.int .i64)) w A0_1 l0_1.length l0_1) (hc0_1 : l0_1.length ≤ c0_1) (hr1_1 : Kd.C (Kd.slice 3 (Kd.int .i64)) w A1_1 l1_1.length l1_1) (hc1_1 : l1_1.length ≤ c1_1) (h : ratchetref03_Same.f k a0_0 l0_1 a1_0 l1_1 = some r) :
    Calls Try.prog 27 #[.agg #[.int .i64 a0_0, .slice A0_1 l0_1.length c0_1], .agg #[.int .i64 a1_0, .slice A1_1 l1_1.length c1_1]] w fun e w' => e = .returned (.bool r) ∧ Below w.heap.size w w' := by
  have hu24 := Try.underlying24
  have HR0_1 := Ak hr0_1
  have HC0_1 := Ak hc0_1
  clear hr0_1 hc0_1
  have HR1_1 := Ak hr1_1
  have HC1_1 := Ak hc1_1
  clear hr1_1 hc1_1
  have HB := Ak (Below.refl w.heap.size w)
  have H : (if a0_0 = a1_0 then ((ratchetbase_Lists.f k l0_1 l1_1).bind fun t230 => (some t230)) else (some false)) = some r := h
  clear h
  by_cases c3 : a0_0 = a1_0
  · rw [if_pos c3] at H
    have c3b0 : (a0_0 == a1_0) = true := beq_iff_eq.mpr c3
    have c3b1 : (a0_0 != a1_0) = false := bne_eq_false_iff_eq.mpr c3
    clear c3
    replace H := Option.bind_eq_some_iff.mp H
    obtain ⟨t230, A40, H⟩ := H
    replace H : (some t230) = some r := H
    have A4 := Ak A40
    clear A40
    obtain rfl := Option.some.inj H
    go_enter Try.func27, Try.ntmps27
    go_wp2_with (first | ((with_reducible refine gate_dst (N := 2) rfl ?_); refine box_event ?hg (N := 2) ?hd (cs := #[.int .i64 a0_0, .slice A0_1 l0_1.length c0_1]) (t := 24) ?hr ?_; (case hd => rfl); (case hg => rfl); (case hr => first | (go_simp; done) | (go_simp; rfl)); intro gb228 hg w5 hbox hb; have n0_ := Ak (below_step (by repeat (first | (with_reducible first | exact HB.out | apply below_alloc | apply pw_below_drewN | apply below_drew1) | exact HB.out)) hb); have n1_ := Ak (hbox); have n2_ := Ak ((by rw [hg]; exact (below_size (by repeat (first | (with_reducible first | exact HB.out | apply below_alloc | apply pw_below_drewN | apply below_drew1) | exact HB.out))) : w.heap.size ≤ gb228)); have n3_ := Ak ((by rw [hg]; exact (below_size (by repeat (first | (with_reducible first | exact HB.out | apply below_alloc | apply pw_below_drewN | apply below_drew1) | exact HB.out))) : w.heap.size ≤ gb228)); clear HB; have HB := n0_; have BK228 := n1_; have GW228 := n2_; have GE228 := n3_; clear n0_ n1_ n2_ n3_; clear hb hbox hg) | ((with_reducible refine gate_dst (N := 3) rfl ?_); refine box_event ?hg (N := 3) ?hd (cs := #[.int .i64 a1_0, .slice A1_1 l1_1.length c1_1]) (t := 24) ?hr ?_; (case hd => rfl); (case hg => rfl); (case hr => first | (go_simp; done) | (go_simp; rfl)); intro gb229 hg w6 hbox hb; have n0_ := Ak (blk_below (g := gb228) (o := .cells #[.int .i64 a0_0, .slice A0_1 l0_1.length c0_1] 24 (0, 0)) (by (with_reducible repeat (first | refine blk_drewN ?_ _ | refine blk_drew ?_ | refine blk_alloc ?_ _)); exact BK228.out) hb); have n1_ := Ak (below_step (by repeat (first | (with_reducible first | exact HB.out | apply below_alloc | apply pw_below_drewN | apply below_drew1 | refine below_set ?_ GE228.out) | exact HB.out)) hb); have n2_ := Ak (hbox); have n3_ := Ak ((by rw [hg]; exact (below_size (by repeat (first | (with_reducible first | exact HB.out | apply below_alloc | apply pw_below_drewN | apply below_drew1 | refine below_set ?_ GE228.out) | exact HB.out))) : w.heap.size ≤ gb229)); have n4_ := Ak ((by rw [hg]; exact (below_size (by repeat (first | (with_reducible first | exact HB.out | apply below_alloc | apply pw_below_drewN | apply below_drew1 | refine below_set ?_ GE228.out) | exact HB.out))) : w.heap.size ≤ gb229)); have n5_ := Ak ((by rw [hg]; exact Nat.ne_of_lt (blk_lt (g := gb228) (o := .cells #[.int .i64 a0_0, .slice A0_1 l0_1.length c0_1] 24 (0, 0)) (by (with_reducible repeat (first | refine blk_drewN ?_ _ | refine blk_drew ?_ | refine blk_alloc ?_ _)); exact BK228.out)) : gb228 ≠ gb229)); have n6_ := Ak ((by rw [hg]; exact Nat.ne_of_gt (blk_lt (g := gb228) (o := .cells #[.int .i64 a0_0, .slice A0_1 l0_1.length c0_1] 24 (0, 0)) (by (with_reducible repeat (first | refine blk_drewN ?_ _ | refine blk_drew ?_ | refine blk_alloc ?_ _)); exact BK228.out)) : gb229 ≠ gb228)); clear BK228; clear HB; have BK228 := n0_; have HB := n1_; have BK229 := n2_; have GW229 := n3_; have GE229 := n4_; have NB228_229 := n5_; have NB229_228 := n6_; clear n0_ n1_ n2_ n3_ n4_ n5_ n6_; clear hb hbox hg; have hnb7 := NB228_229.out; have hnc7 := NB229_228.out; have hcz8_0 : w6.cell? ⟨gb228, 0, none⟩ = some (.int .i64 a0_0) := (blk_cell BK228.out 0).trans rfl; have hcz8_1 : w6.cell? ⟨gb228, 1, none⟩ = some (.slice A0_1 l0_1.length c0_1) := (blk_cell BK228.out 1).trans rfl; have hfz8_0 := blk_frozen BK228.out 0; have hfz8_1 := blk_frozen BK228.out 1; have hcz9_0 : w6.cell? ⟨gb229, 0, none⟩ = some (.int .i64 a1_0) := (blk_cell BK229.out 0).trans rfl; have hcz9_1 : w6.cell? ⟨gb229, 1, none⟩ = some (.slice A1_1 l1_1.length c1_1) := (blk_cell BK229.out 1).trans rfl; have hfz9_0 := blk_frozen BK229.out 0; have hfz9_1 := blk_frozen BK229.out 1) | (go_at_call 58; (with_reducible refine (ratchetbase_Lists.calls k _ _ l0_1 _ _ l1_1 t230 _ ?side1 ?side2 ?side3 ?side4 A4.out).mono ?_); (case side1 => repeat (first | exact (Kd.C_below HR0_1.out HB.out) | (with_reducible refine Kd.C_alloc ?_ _) | (with_reducible refine Kd.C_drewN ?_ _) | (with_reducible refine Kd.C_drew ?_))); (case side2 => exact HC0_1.out); (case side3 => repeat (first | exact (Kd.C_below HR1_1.out HB.out) | (with_reducible refine Kd.C_alloc ?_ _) | (with_reducible refine Kd.C_drewN ?_ _) | (with_reducible refine Kd.C_drew ?_))); (case side4 => exact HC1_1.out); rintro e w' ⟨rfl, ⟨nd, rfl⟩⟩))
    go_ret
    exact ⟨by first | rfl | (simp [errW_none, errW_some] <;> rfl) | (simp [*, errW_none, errW_some] <;> rfl), by repeat (first | (with_reducible first | exact HB.out | apply below_alloc | apply pw_below_drewN | apply below_drew1 | refine below_set ?_ GE228.out | refine below_set ?_ GE229.out) | exact HB.out)⟩
  · rw [if_neg c3] at H
    have c3b0 : (a0_0 == a1_0) = false := beq_eq_false_iff_ne.mpr c3
    have c3b1 : (a0_0 != a1_0) = true := bne_iff_ne.mpr c3
    obtain rfl := Option.some.inj H
    go_enter Try.func27, Try.ntmps27
    go_wp2_with (first | ((with_reducible refine gate_dst (N := 2) rfl ?_); refine box_event ?hg (N := 2) ?hd (cs := #[.int .i64 a0_0, .slice A0_1 l0_1.length c0_1]) (t := 24) ?hr ?_; (case hd => rfl); (case hg => rfl); (case hr => first | (go_simp; done) | (go_simp; rfl)); intro gb228 hg w10 hbox hb; have n0_ := Ak (below_step (by repeat (first | (with_reducible first | exact HB.out | apply below_alloc | apply pw_below_drewN | apply below_drew1) | exact HB.out)) hb); have n1_ := Ak (hbox); have n2_ := Ak ((by rw [hg]; exact (below_size (by repeat (first | (with_reducible first | exact HB.out | apply below_alloc | apply pw_below_drewN | apply below_drew1) | exact HB.out))) : w.heap.size ≤ gb228)); have n3_ := Ak ((by rw [hg]; exact (below_size (by repeat (first | (with_reducible first | exact HB.out | apply below_alloc | apply pw_below_drewN | apply below_drew1) | exact HB.out))) : w.heap.size ≤ gb228)); clear HB; have HB := n0_; have BK228 := n1_; have GW228 := n2_; have GE228 := n3_; clear n0_ n1_ n2_ n3_; clear hb hbox hg) | ((with_reducible refine gate_dst (N := 3) rfl ?_); refine box_event ?hg (N := 3) ?hd (cs := #[.int .i64 a1_0, .slice A1_1 l1_1.length c1_1]) (t := 24) ?hr ?_; (case hd => rfl); (case hg => rfl); (case hr => first | (go_simp; done) | (go_simp; rfl)); intro gb229 hg w11 hbox hb; have n0_ := Ak (blk_below (g := gb228) (o := .cells #[.int .i64 a0_0, .slice A0_1 l0_1.length c0_1] 24 (0, 0)) (by (with_reducible repeat (first | refine blk_drewN ?_ _ | refine blk_drew ?_ | refine blk_alloc ?_ _)); exact BK228.out) hb); have n1_ := Ak (below_step (by repeat (first | (with_reducible first | exact HB.out | apply below_alloc | apply pw_below_drewN | apply below_drew1 | refine below_set ?_ GE228.out) | exact HB.out)) hb); have n2_ := Ak (hbox); have n3_ := Ak ((by rw [hg]; exact (below_size (by repeat (first | (with_reducible first | exact HB.out | apply below_alloc | apply pw_below_drewN | apply below_drew1 | refine below_set ?_ GE228.out) | exact HB.out))) : w.heap.size ≤ gb229)); have n4_ := Ak ((by rw [hg]; exact (below_size (by repeat (first | (with_reducible first | exact HB.out | apply below_alloc | apply pw_below_drewN | apply below_drew1 | refine below_set ?_ GE228.out) | exact HB.out))) : w.heap.size ≤ gb229)); have n5_ := Ak ((by rw [hg]; exact Nat.ne_of_lt (blk_lt (g := gb228) (o := .cells #[.int .i64 a0_0, .slice A0_1 l0_1.length c0_1] 24 (0, 0)) (by (with_reducible repeat (first | refine blk_drewN ?_ _ | refine blk_drew ?_ | refine blk_alloc ?_ _)); exact BK228.out)) : gb228 ≠ gb229)); have n6_ := Ak ((by rw [hg]; exact Nat.ne_of_gt (blk_lt (g := gb228) (o := .cells #[.int .i64 a0_0, .slice A0_1 l0_1.length c0_1] 24 (0, 0)) (by (with_reducible repeat (first | refine blk_drewN ?_ _ | refine blk_drew ?_ | refine blk_alloc ?_ _)); exact BK228.out)) : gb229 ≠ gb228)); clear BK228; clear HB; have BK228 := n0_; have HB := n1_; have BK229 := n2_; have GW229 := n3_; have GE229 := n4_; have NB228_229 := n5_; have NB229_228 := n6_; clear n0_ n1_ n2_ n3_ n4_ n5_ n6_; clear hb hbox hg; have hnb12 := NB228_229.out; have hnc12 := NB229_228.out; have hcz13_0 : w11.cell? ⟨gb228, 0, none⟩ = some (.int .i64 a0_0) := (blk_cell BK228.out 0).trans rfl; have hcz13_1 : w11.cell? ⟨gb228, 1, none⟩ = some (.slice A0_1 l0_1.length c0_1) := (blk_cell BK228.out 1).trans rfl; have hfz13_0 := blk_frozen BK228.out 0; have hfz13_1 := blk_frozen BK228.out 1; have hcz14_0 : w11.cell? ⟨gb229, 0, none⟩ = some (.int .i64 a1_0) := (blk_cell BK229.out 0).trans rfl; have hcz14_1 : w11.cell? ⟨gb229, 1, none⟩ = some (.slice A1_1 l1_1.length c1_1) := (blk_cell BK229.out 1).trans rfl; have hfz14_0 := blk_frozen BK229.out 0; have hfz14_1 := blk_frozen BK229.out 1))
    go_ret
    exact ⟨by first | rfl | (simp [errW_none, errW_some] <;> rfl) | (simp [*, errW_none, errW_some] <;> rfl), by repeat (first | (with_reducible first | exact HB.out | apply below_alloc | apply pw_below_drewN | apply below_drew1 | refine below_set ?_ GE228.out | refine below_set ?_ GE229.out) | exact HB.out)⟩
def ratchetbase_Power.f (a0 : Int) : Option (Int) := if 0 ≤ a0 then (some (shl .i64 1 a0)) else (none)
set_option maxHeartbeats 8000000 in
set_option maxRecDepth 100000 in
theorem ratchetbase_Power.calls (a0 : Int) (r : Int) (w : World) (h : ratchetbase_Power.f a0 = some r) :
    Calls Try.prog 23 #[.int .i64 a0] w fun e w' => e = .returned (.int .i64 r) ∧ Drawn0 w w' := by
  have H : (if 0 ≤ a0 then (some (shl .i64 1 a0)) else (none)) = some r := h
  clear h
  by_cases c2 : 0 ≤ a0
  · rw [if_pos c2] at H
    have c2b0 := eq_true c2
    have c2b1 : decide (0 ≤ a0) = true := decide_eq_true c2
    clear c2
    obtain ⟨ji3, hji3⟩ : ∃ j_ : Int, (shl .i64 1 a0) = j_ := ⟨_, rfl⟩
    replace H : (some ji3) = some r := by first | (rw [hji3] at H; exact H) | (simp only [hji3] at H ⊢; exact H)
    have hji3_ : (IntKind.i64.wrap (1 * 2 ^ min a0.toNat 64)) = ji3 := hji3
    have hji3z : a0 ≤ 64 → (IntKind.i64.wrap (1 * 2 ^ a0.toNat)) = ji3 := shl_small hji3
    have hji3u : (IntKind.i64.wrap (2 ^ min a0.toNat 64)) = ji3 := by have h_ := hji3_; rw [Int.one_mul] at h_; exact h_
    have hji3v : a0 ≤ 64 → (IntKind.i64.wrap (2 ^ a0.toNat)) = ji3 := fun hle_ => by have h_ := hji3z hle_; rw [Int.one_mul] at h_; exact h_
    have hji3y : (wrap64 (1 * 2 ^ min a0.toNat 64)) = ji3 := (i64_w _).symm.trans hji3_
    have hji3x : a0 ≤ 64 → (wrap64 (1 * 2 ^ a0.toNat)) = ji3 := fun h_ => (i64_w _).symm.trans (hji3z h_)
    obtain rfl := Option.some.inj H
    go_enter Try.func23, Try.ntmps23
    go_wp2
    go_ret
    exact ⟨by first | rfl | (simp; done) | (simp only [← hji3] <;> (first | rfl | simp)) | (simp [*]; done), by repeat (first | exact Drawn0.refl _ | apply Drawn0.step)⟩
  · rw [if_neg c2] at H
    exact absurd H (by simp)
end Go.Proofs.Ytapbkoolddnjgaa.PA
