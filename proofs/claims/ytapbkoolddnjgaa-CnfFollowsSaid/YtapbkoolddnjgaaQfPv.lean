/- What the claim needs of Pv: lemmas and contracts, cut by a program to what is used. -/
import Derived.Test.YtapbkoolddnjgaaQfPAx3
import Derived.Test.YtapbkoolddnjgaaQfPAx4
import Derived.Test.YtapbkoolddnjgaaQfPAx5
import Derived.Test.YtapbkoolddnjgaaQfPAx7
set_option linter.unusedVariables false
set_option linter.unusedSimpArgs false
namespace Go.Proofs.Ytapbkoolddnjgaa.Pure
open Go.RowKit Go.Proofs.Ytapbkoolddnjgaa.PA Go.Proofs.YtapbkoolddnjgaaW.PrintWords Go.Proofs.YtapbkoolddnjgaaW.PrintLast Go.Proofs.Sl
theorem nodup_inj {α β : Type} {f : α → β} : ∀ {l : List α}, (l.map f).Nodup → ∀ x ∈ l, ∀ y ∈ l, f x = f y → x = y
  | [], _, x, hx, _, _, _ => by simp at hx
  | z :: l, h, x, hx, y, hy, e => by
    simp only [List.map_cons, List.nodup_cons, List.mem_map, not_exists, not_and] at h
    rcases List.mem_cons.1 hx with hx' | hx'
    · rcases List.mem_cons.1 hy with hy' | hy'
      · rw [hx', hy']
      · rw [hx'] at e; exact absurd e.symm (h.1 y hy')
    · rcases List.mem_cons.1 hy with hy' | hy'
      · rw [hy'] at e; exact absurd e (h.1 x hx')
      · exact nodup_inj h.2 x hx' y hy' e
theorem trail_excl {s : Sv} (h : s.Ok) {n : Int} (h1 : n ∈ s.trail) : -n ∉ s.trail := by
  intro h2
  have := nodup_inj h.nodup n h1 (-n) h2 (by simp)
  have := (h.tlits n h1).1
  omega
def Op (t : List Int) (n : Int) : Bool := decide (n ∉ t) && decide (-n ∉ t)
theorem lit_det {s : Sv} (h : s.Ok) {n : Int} (hn : n ≠ 0 ∧ -s.vars ≤ n ∧ n ≤ s.vars) : litVal s.vals n = if n ∈ s.trail then 1 else if -n ∈ s.trail then -1 else 0 := by
  obtain ⟨h0, h1, h2⟩ := hn
  have hv := h.vals
  unfold litVal
  by_cases hneg : n < 0
  · rw [if_pos hneg]
    have hd := h.det (-n).toNat (by omega)
    have hr : rd s.vals (-n) = tv s.trail (-n).toNat := hd
    rw [hr]
    unfold tv
    rw [show (((-n).toNat : Nat) : Int) = -n by omega, Int.neg_neg]
    by_cases ha : n ∈ s.trail
    · rw [if_neg (trail_excl h ha), if_pos ha, if_pos ha]; rfl
    · by_cases hb : -n ∈ s.trail
      · rw [if_pos hb, if_neg ha, if_pos hb]
      · rw [if_neg hb, if_neg ha, if_neg ha, if_neg hb]; rfl
  · rw [if_neg hneg]
    have hd := h.det n.toNat (by omega)
    have hr : rd s.vals n = tv s.trail n.toNat := hd
    rw [hr]
    unfold tv
    rw [show ((n.toNat : Nat) : Int) = n by omega]
theorem lit_one {s : Sv} (h : s.Ok) {n : Int} (hn : n ≠ 0 ∧ -s.vars ≤ n ∧ n ≤ s.vars) : litVal s.vals n = 1 ↔ n ∈ s.trail := by
  rw [lit_det h hn]
  by_cases ha : n ∈ s.trail
  · simp [ha]
  · by_cases hb : -n ∈ s.trail <;> simp [ha, hb]
theorem lit_zero {s : Sv} (h : s.Ok) {n : Int} (hn : n ≠ 0 ∧ -s.vars ≤ n ∧ n ≤ s.vars) : litVal s.vals n = 0 ↔ Op s.trail n = true := by
  rw [lit_det h hn]
  unfold Op
  by_cases ha : n ∈ s.trail
  · simp [ha]
  · by_cases hb : -n ∈ s.trail <;> simp [ha, hb]
theorem openRun_spec (vals : List Int) : ∀ (c l : List Int), l.length ≤ 1 →
    ((openRun vals l c).2 = true → ∃ n ∈ c, litVal vals n = 1) ∧
    ((openRun vals l c).2 = false → 1 < (openRun vals l c).1.length → 2 ≤ l.length + c.countP (fun n => litVal vals n == 0)) ∧
    ((openRun vals l c).2 = false → (openRun vals l c).1.length ≤ 1 → (∀ n ∈ c, litVal vals n ≠ 1) ∧ (openRun vals l c).1 = l ++ c.filter (fun n => litVal vals n == 0))
  | [], l, hl => ⟨fun h => by simp [openRun] at h, fun _ (h : 1 < l.length) => by omega, fun _ _ => ⟨by simp, by simp [openRun]⟩⟩
  | n :: c, l, hl => by
    unfold openRun
    by_cases h1 : litVal vals n = 1
    · rw [if_pos h1]
      refine ⟨fun _ => ⟨n, List.mem_cons_self .., h1⟩, ?_, ?_⟩ <;> simp
    · rw [if_neg h1]
      by_cases h0 : litVal vals n = 0
      · rw [if_pos h0]
        by_cases hz : l.length = 0
        · rw [if_pos hz]
          obtain ⟨i1, i2, i3⟩ := openRun_spec vals c (l ++ [n]) (by rw [List.length_append, List.length_cons, List.length_nil]; omega)
          refine ⟨fun h => ?_, fun h g => ?_, fun h g => ?_⟩
          · obtain ⟨m, hm, e⟩ := i1 h
            exact ⟨m, List.mem_cons_of_mem _ hm, e⟩
          · have := i2 h g
            simp [h0] at this ⊢
            omega
          · obtain ⟨j1, j2⟩ := i3 h g
            refine ⟨fun m hm => ?_, ?_⟩
            · rcases List.mem_cons.1 hm with rfl | hm
              · exact h1
              · exact j1 m hm
            · rw [j2]; simp [h0]
        · rw [if_neg hz]
          have e : (n :: c).countP (fun n => litVal vals n == 0) = c.countP (fun n => litVal vals n == 0) + 1 := by simp [h0]
          refine ⟨by simp, fun _ _ => ?_, fun _ g => ?_⟩
          · rw [e]; omega
          · rw [List.length_append, List.length_cons, List.length_nil] at g; omega
      · rw [if_neg h0, if_neg (by omega)]
        obtain ⟨i1, i2, i3⟩ := openRun_spec vals c l hl
        refine ⟨fun h => ?_, fun h g => ?_, fun h g => ?_⟩
        · obtain ⟨m, hm, e⟩ := i1 h
          exact ⟨m, List.mem_cons_of_mem _ hm, e⟩
        · have := i2 h g
          have e : (n :: c).countP (fun n => litVal vals n == 0) = c.countP (fun n => litVal vals n == 0) := by simp [h0]
          rw [e]; exact this
        · obtain ⟨j1, j2⟩ := i3 h g
          refine ⟨fun m hm => ?_, ?_⟩
          · rcases List.mem_cons.1 hm with rfl | hm
            · exact h1
            · exact j1 m hm
          · rw [j2]; simp [h0]
theorem filter_one {p : Int → Bool} {c : List Int} {n : Int} (h : c.filter p = [n]) : ∀ m ∈ c, p m = true → m = n := by
  intro m hm hp
  have : m ∈ c.filter p := List.mem_filter.2 ⟨hm, hp⟩
  rw [h] at this
  simpa using this
theorem look_spec {s : Sv} (h : s.Ok) {i : Int} (h0 : 0 ≤ i) (h1 : i < s.cl.length) :
    (s.look i = (false, s) ∧ ((∃ n ∈ rdL s.cl i, n ∈ s.trail) ∨ 2 ≤ (rdL s.cl i).countP (Op s.trail))) ∨
    (s.look i = (true, s) ∧ ∀ n ∈ rdL s.cl i, -n ∈ s.trail) ∨
    (∃ n ∈ rdL s.cl i, s.look i = (false, s.assume n i) ∧ Op s.trail n = true ∧ ∀ m ∈ rdL s.cl i, m ≠ n → -m ∈ s.trail) := by
  have hlit := h.lits _ (h.clause h0 h1)
  obtain ⟨a1, a2, a3⟩ := openRun_spec s.vals (rdL s.cl i) [] (by simp)
  unfold Sv.look
  generalize rdL s.cl i = c at a1 a2 a3 hlit ⊢
  have hcount : c.countP (fun n => litVal s.vals n == 0) = c.countP (Op s.trail) := by
    refine List.countP_congr (fun n hn => ?_)
    rw [beq_iff_eq, lit_zero h (hlit n hn)]
  have hneg : ∀ m ∈ c, litVal s.vals m ≠ 1 → litVal s.vals m ≠ 0 → -m ∈ s.trail := by
    intro m hm g1 g0
    have := lit_det h (hlit m hm)
    by_cases ha : m ∈ s.trail
    · rw [if_pos ha] at this; exact absurd this g1
    · by_cases hb : -m ∈ s.trail
      · exact hb
      · rw [if_neg ha, if_neg hb] at this; exact absurd this g0
  generalize ho : openRun s.vals [] c = o at a1 a2 a3 ⊢
  obtain ⟨l, dn⟩ := o
  dsimp only at a1 a2 a3 ⊢
  cases dn with
  | true =>
    rw [if_pos (.inl rfl)]
    obtain ⟨n, hn, e⟩ := a1 rfl
    exact .inl ⟨rfl, .inl ⟨n, hn, (lit_one h (hlit n hn)).1 e⟩⟩
  | false =>
    by_cases hl : 1 < l.length
    · rw [if_pos (.inr hl)]
      have := a2 rfl hl
      rw [hcount] at this
      exact .inl ⟨rfl, .inr (by simpa using this)⟩
    · rw [if_neg (by simp; omega)]
      obtain ⟨b1, b2⟩ := a3 rfl (by omega)
      rw [List.nil_append] at b2
      cases l with
      | nil =>
        refine .inr (.inl ⟨rfl, fun m hm => hneg m hm (b1 m hm) (fun e => ?_)⟩)
        have : m ∈ c.filter (fun n => litVal s.vals n == 0) := List.mem_filter.2 ⟨hm, by simp [e]⟩
        rw [← b2] at this
        simp at this
      | cons n l =>
        obtain rfl : l = [] := by cases l with
          | nil => rfl
          | cons x l => simp at hl
        have hmem : n ∈ c.filter (fun n => litVal s.vals n == 0) := by rw [← b2]; simp
        obtain ⟨g1, g2⟩ := List.mem_filter.1 hmem
        refine .inr (.inr ⟨n, g1, rfl, (lit_zero h (hlit n g1)).1 (by simpa using g2), fun m hm hne => hneg m hm (b1 m hm) (fun e => hne (filter_one b2.symm m hm (by simp [e])))⟩)
inductive Der (cl : List (List Int)) (D : Int → Prop) : Int → Prop
  | base {n : Int} : D n → Der cl D n
  | unit {c : List Int} {n : Int} : c ∈ cl → n ∈ c → (∀ m ∈ c, m ≠ n → Der cl D (-m)) → Der cl D n
def Bad (cl : List (List Int)) (D : Int → Prop) : Prop := ∃ c ∈ cl, ∀ n ∈ c, Der cl D (-n)
theorem Der.mono {cl : List (List Int)} {D E : Int → Prop} (h : ∀ n, D n → Der cl E n) {n : Int} (hn : Der cl D n) : Der cl E n := by
  induction hn with
  | base hd => exact h _ hd
  | unit hc hm _ ih => exact .unit hc hm ih
def Fine (t : List Int) (d : Nat) (c : List Int) : Prop := (∃ n ∈ c, n ∈ t) ∨ 2 ≤ c.countP (Op t) ∨ ∃ n ∈ c, -n ∈ t.drop d
theorem Fine.assume {t : List Int} {d : Nat} {c : List Int} (h : Fine t d c) {n : Int} (hd : d ≤ t.length) : Fine (t ++ [n]) d c := by
  rcases h with ⟨m, hm, ht⟩ | h | ⟨m, hm, ht⟩
  · exact .inl ⟨m, hm, List.mem_append_left _ ht⟩
  · by_cases h1 : n ∈ c
    · exact .inl ⟨n, h1, by simp⟩
    · by_cases h2 : -n ∈ c
      · refine .inr (.inr ⟨-n, h2, ?_⟩)
        rw [List.drop_append_of_le_length hd, Int.neg_neg]
        simp
      · refine .inr (.inl ?_)
        have : c.countP (Op (t ++ [n])) = c.countP (Op t) := by
          refine List.countP_congr (fun m hm => ?_)
          unfold Op
          have e1 : m ≠ n := fun e => h1 (e ▸ hm)
          have e2 : -m ≠ n := fun e => h2 (by rw [← e, Int.neg_neg]; exact hm)
          simp [e1, e2]
        rw [this]; exact h
  · refine .inr (.inr ⟨m, hm, ?_⟩)
    rw [List.drop_append_of_le_length hd]
    exact List.mem_append_left _ ht
structure LookRes (s : Sv) (D : Int → Prop) (d : Nat) (J : Int → Prop) (r : Int × Sv) : Prop where
  sound : ∀ n ∈ r.2.trail, Der s.cl D n
  fine : r.1 = -1 → ∀ j : Int, 0 ≤ j → j < s.cl.length → J j → Fine r.2.trail d (rdL s.cl j)
  bad : r.1 ≠ -1 → Bad s.cl D
theorem rdL_mem {l : List (List Int)} {j : Int} (h0 : 0 ≤ j) (h1 : j < l.length) : rdL l j ∈ l := by
  unfold rdL
  rw [List.getD_eq_getElem?_getD, List.getElem?_eq_getElem (by omega)]
  exact List.getElem_mem _
theorem lookAll_spec {D : Int → Prop} {d : Nat} : ∀ {l : List Int} {s : Sv}, s.Ok → (∀ i ∈ l, 0 ≤ i ∧ i < s.cl.length) → d ≤ s.trail.length → (∀ n ∈ s.trail, Der s.cl D n) →
    (∀ j : Int, 0 ≤ j → j < s.cl.length → j ∉ l → Fine s.trail d (rdL s.cl j)) → LookRes s D d (fun _ => True) (s.lookAll l)
  | [], s, h, _, _, hs, hf => ⟨hs, fun _ j h0 h1 _ => hf j h0 h1 (by simp), fun hn => absurd rfl hn⟩
  | i :: l, s, h, hl, hd, hs, hf => by
    obtain ⟨i0, i1⟩ := hl i (List.mem_cons_self ..)
    have hrest : ∀ j ∈ l, 0 ≤ j ∧ j < s.cl.length := fun j hj => hl j (List.mem_cons_of_mem _ hj)
    unfold Sv.lookAll
    rcases look_spec h i0 i1 with ⟨e, hok⟩ | ⟨e, hbad⟩ | ⟨n, hn, e, ho, hu⟩
    · rw [e]
      dsimp only
      rw [if_neg (by simp)]
      refine lookAll_spec h hrest hd hs (fun j j0 j1 hj => ?_)
      by_cases hij : j = i
      · rw [hij]
        rcases hok with h1 | h2
        · exact .inl h1
        · exact .inr (.inl h2)
      · exact hf j j0 j1 (by simp [hij, hj])
    · rw [e]
      dsimp only
      rw [if_pos rfl]
      exact ⟨hs, fun h1 => absurd h1 (by dsimp only; omega), fun _ => ⟨_, rdL_mem i0 i1, fun m hm => hs _ (hbad m hm)⟩⟩
    · rw [e]
      dsimp only
      rw [if_neg (by simp)]
      have hlit := h.lits _ (h.clause i0 i1) n hn
      have h2 : (s.assume n i).Ok := h.assume hlit ((lit_zero h hlit).2 ho)
      have := lookAll_spec (D := D) (d := d) (l := l) h2 hrest (by show d ≤ (s.trail ++ [n]).length; simp; omega) (fun m hm => by
        rcases List.mem_append.1 (show m ∈ s.trail ++ [n] from hm) with hm | hm
        · exact hs m hm
        · rw [List.mem_singleton.1 hm]
          exact .unit (rdL_mem i0 i1) hn (fun q hq hne => hs _ (hu q hq hne))) (fun j j0 j1 hj => by
        show Fine (s.trail ++ [n]) d (rdL s.cl j)
        by_cases hij : j = i
        · rw [hij]; exact .inl ⟨n, hn, by simp⟩
        · exact (hf j j0 j1 (by simp [hij, hj])).assume hd)
      exact ⟨this.sound, this.fine, this.bad⟩
def Listed (cl : List (List Int)) (occ : List (Int × List Int)) : Prop := ∀ (j : Nat) (c : List Int), cl[j]? = some c → ∀ n ∈ c, (j : Int) ∈ occOf occ n
theorem occRow_keeps (i : Int) : ∀ (c : List Int) (m : List (Int × List Int)) (n x : Int), x ∈ occOf m n → x ∈ occOf (occRow i m c) n
  | [], m, n, x, h => h
  | y :: c, m, n, x, h => by
    unfold occRow
    refine occRow_keeps i c _ n x ?_
    unfold occOf at h ⊢
    rw [alook_aput]
    by_cases e : y = n
    · rw [if_pos e, Option.getD_some]; subst e; exact List.mem_append_left _ h
    · rw [if_neg e]; exact h
theorem occRow_has (i : Int) : ∀ (c : List Int) (m : List (Int × List Int)) (n : Int), n ∈ c → i ∈ occOf (occRow i m c) n
  | y :: c, m, n, h => by
    unfold occRow
    rcases List.mem_cons.1 h with rfl | h
    · refine occRow_keeps i c _ n i ?_
      unfold occOf
      rw [alook_aput, if_pos rfl, Option.getD_some]
      simp
    · exact occRow_has i c _ n h
theorem occAll_keeps : ∀ (l : List (List Int)) (i : Nat) (m : List (Int × List Int)) (n x : Int), x ∈ occOf m n → x ∈ occOf (occAll i m l) n
  | [], _, _, _, _, h => h
  | c :: l, i, m, n, x, h => by
    unfold occAll
    exact occAll_keeps l _ _ n x (occRow_keeps _ c m n x h)
theorem occAll_has : ∀ (l : List (List Int)) (i : Nat) (m : List (Int × List Int)) (j : Nat) (c : List Int), l[j]? = some c → ∀ n ∈ c, ((i + j : Nat) : Int) ∈ occOf (occAll i m l) n
  | [], _, _, j, c, h, _, _ => by simp at h
  | c0 :: l, i, m, 0, c, h, n, hn => by
    obtain rfl : c0 = c := by simpa using h
    unfold occAll
    exact occAll_keeps l _ _ n _ (occRow_has _ c0 m n hn)
  | c0 :: l, i, m, j + 1, c, h, n, hn => by
    unfold occAll
    have := occAll_has l (i + 1) (occRow (i : Int) m c0) j c (by simpa using h) n hn
    rw [show i + (j + 1) = i + 1 + j by omega]
    exact this
theorem listed_new (cl : List (List Int)) : Listed cl (occAll 0 [] cl) := fun j c h n hn => by
  have := occAll_has cl 0 [] j c h n hn
  simpa using this
theorem mem_rdL {cl : List (List Int)} {j : Int} (h0 : 0 ≤ j) (h1 : j < cl.length) : cl[j.toNat]? = some (rdL cl j) := by
  unfold rdL
  rw [List.getElem?_eq_getElem (by omega), List.getD_eq_getElem?_getD, List.getElem?_eq_getElem (by omega)]
  rfl
theorem propagate_spec {D : Int → Prop} : ∀ {k : Nat} {s : Sv}, s.Ok → Listed s.cl s.occ → 1002 ≤ (k : Int) + s.done → (∀ n ∈ s.trail, Der s.cl D n) →
    (∀ j : Int, 0 ≤ j → j < s.cl.length → Fine s.trail s.done.toNat (rdL s.cl j)) →
    (∀ n ∈ (Sv.propagate k s).2.trail, Der s.cl D n) ∧ ((Sv.propagate k s).1 < 0 → ∀ c ∈ s.cl, (∃ n ∈ c, n ∈ (Sv.propagate k s).2.trail) ∨ 2 ≤ c.countP (Op (Sv.propagate k s).2.trail)) ∧ (¬ (Sv.propagate k s).1 < 0 → Bad s.cl D)
  | 0, s, h, ho, hk, hs, hf => by have := h.done1; have := h.trail_le; have := h.vars1; omega
  | k + 1, s, h, ho, hk, hs, hf => by
    have hd0 := h.done0
    unfold Sv.propagate
    by_cases hd : s.done < s.trail.length
    · rw [if_pos hd]
      have h1 := h.step hd
      have hocc : ∀ i ∈ occOf s.occ (-(rd s.trail s.done)), 0 ≤ i ∧ i < s.cl.length := occOf_mem h.occ
      have hnn : ∀ i ∈ occOf s.occ (-(rd s.trail s.done)), 0 ≤ i := fun i hi => (hocc i hi).1
      have hx : s.trail.drop s.done.toNat = rd s.trail s.done :: s.trail.drop (s.done.toNat + 1) := by
        rw [List.drop_eq_getElem_cons (by omega)]
        congr 1
        unfold rd
        rw [List.getD_eq_getElem?_getD, List.getElem?_eq_getElem (by omega)]
        rfl
      have hL := lookAll_spec (D := D) (d := (s.done + 1).toNat) (l := occOf s.occ (-(rd s.trail s.done))) h1 hocc (by show (s.done + 1).toNat ≤ s.trail.length; omega) hs (fun j j0 j1 hj => by
        show Fine s.trail _ (rdL s.cl j)
        rcases hf j j0 j1 with h2 | h2 | ⟨n, hn, hdr⟩
        · exact .inl h2
        · exact .inr (.inl h2)
        · rw [hx] at hdr
          rcases List.mem_cons.1 hdr with e | hdr
          · exfalso
            refine hj ?_
            have := ho j.toNat _ (mem_rdL j0 j1) n hn
            rw [show ((j.toNat : Nat) : Int) = j by omega] at this
            rw [← e, Int.neg_neg]
            exact this
          · refine .inr (.inr ⟨n, hn, ?_⟩)
            rw [show (s.done + 1).toNat = s.done.toNat + 1 by omega]
            exact hdr)
      obtain ⟨m1, m2, m3⟩ := Sv.lookAll_ok (l := occOf s.occ (-(rd s.trail s.done))) h1 hocc
      have hng := lookAll_neg (s := ({ s with done := s.done + 1 } : Sv)) hnn
      generalize hR : ({ s with done := s.done + 1 } : Sv).lookAll (occOf s.occ (-(rd s.trail s.done))) = R at hL m1 m2 m3 hng ⊢
      have hcl : R.2.cl = s.cl := m2.cl
      have hoc : R.2.occ = s.occ := m2.occ
      by_cases he : R.1 = -1
      · rw [if_pos he]
        have := propagate_spec (D := D) (k := k) (s := R.2) m1 (by rw [hcl, hoc]; exact ho) (by rw [m3]; show 1002 ≤ (k : Int) + (s.done + 1); omega) (by rw [hcl]; exact hL.sound) (by
          rw [hcl, m3]
          exact fun j j0 j1 => hL.fine he j j0 j1 trivial)
        rw [hcl] at this
        exact this
      · rw [if_neg he]
        refine ⟨hL.sound, fun hlt => ?_, fun _ => hL.bad he⟩
        rcases hng with h2 | h2
        · exact absurd h2 he
        · omega
    · rw [if_neg hd]
      refine ⟨hs, fun _ c hc => ?_, fun hlt => absurd (show (-1 : Int) < 0 by decide) hlt⟩
      obtain ⟨j, hj, rfl⟩ := List.getElem_of_mem hc
      have := hf (j : Int) (by omega) (by omega)
      have hr : rdL s.cl (j : Int) = s.cl[j] := by
        have := mem_rdL (cl := s.cl) (j := (j : Int)) (by omega) (by omega)
        rw [Int.toNat_natCast, List.getElem?_eq_getElem hj] at this
        exact (Option.some.inj this).symm
      rw [hr] at this
      rcases this with h2 | h2 | ⟨n, hn, hdr⟩
      · exact .inl h2
      · exact .inr h2
      · rw [List.drop_of_length_le (by omega)] at hdr
        simp at hdr
def Closed (cl : List (List Int)) (t : List Int) : Prop := ∀ c ∈ cl, (∃ n ∈ c, n ∈ t) ∨ 2 ≤ c.countP (Op t)
theorem Closed.fine {cl : List (List Int)} {t : List Int} (h : Closed cl t) (d : Nat) {j : Int} (j0 : 0 ≤ j) (j1 : j < cl.length) : Fine t d (rdL cl j) := by
  rcases h _ (rdL_mem j0 j1) with h2 | h2
  · exact .inl h2
  · exact .inr (.inl h2)
theorem tried_spec {s : Sv} (h : s.Ok) (ho : Listed s.cl s.occ) (hd : s.done = s.trail.length) (hc : Closed s.cl s.trail) {n : Int} (hn : n ≠ 0 ∧ -s.vars ≤ n ∧ n ≤ s.vars) (h0 : litVal s.vals n = 0) :
    (∀ m ∈ ((s.assume n (-1)).propagate 1002).2.trail, Der s.cl (fun x => x ∈ s.trail ∨ x = n) m) ∧
    (((s.assume n (-1)).propagate 1002).1 < 0 → Closed s.cl ((s.assume n (-1)).propagate 1002).2.trail) ∧
    (¬ ((s.assume n (-1)).propagate 1002).1 < 0 → Bad s.cl (fun x => x ∈ s.trail ∨ x = n)) := by
  have h1 := h.assume (r := -1) hn h0
  exact propagate_spec (D := fun x => x ∈ s.trail ∨ x = n) (k := 1002) (s := s.assume n (-1)) h1 ho (by have := h1.done0; omega) (fun m hm => by
    rcases List.mem_append.1 (show m ∈ s.trail ++ [n] from hm) with hm | hm
    · exact .base (.inl hm)
    · exact .base (.inr (List.mem_singleton.1 hm))) (fun j j0 j1 => by
    show Fine (s.trail ++ [n]) s.done.toNat (rdL s.cl j)
    exact (hc.fine _ j0 j1).assume (by omega))
theorem beginFrom_spec : ∀ {l : List (List Int)} {i : Nat} {s : Sv}, s.Ok → Listed s.cl s.occ → s.done = 0 → s.cl.drop i = l → (∀ n ∈ s.trail, Der s.cl (fun _ => False) n) →
    (∀ j : Int, 0 ≤ j → j < s.cl.length → j < i ∨ 2 ≤ (rdL s.cl j).length → Fine s.trail 0 (rdL s.cl j)) →
    (∀ n ∈ (s.beginFrom i l).2.trail, Der s.cl (fun _ => False) n) ∧ ((s.beginFrom i l).1 < 0 → Closed s.cl (s.beginFrom i l).2.trail) ∧ (¬ (s.beginFrom i l).1 < 0 → Bad s.cl (fun _ => False))
  | [], i, s, h, ho, hd, hl, hs, hf => by
    have hi : s.cl.length ≤ i := by
      have := congrArg List.length hl
      simp at this; omega
    unfold Sv.beginFrom
    exact propagate_spec (D := fun _ => False) h ho (by omega) hs (fun j j0 j1 => by rw [hd]; exact hf j j0 j1 (.inl (by omega)))
  | c :: l, i, s, h, ho, hd, hl, hs, hf => by
    have hi : i < s.cl.length := by
      have := congrArg List.length hl
      simp at this; omega
    have hc : rdL s.cl (i : Int) = c := by
      have := mem_rdL (cl := s.cl) (j := (i : Int)) (by omega) (by omega)
      rw [Int.toNat_natCast] at this
      have h2 : s.cl[i]? = some c := by
        have := congrArg (fun l => l[0]?) hl
        simpa using this
      rw [h2] at this
      exact (Option.some.inj this).symm
    have hl2 : s.cl.drop (i + 1) = l := by
      have := congrArg (fun l => l.drop 1) hl
      simpa [List.drop_drop] using this
    unfold Sv.beginFrom
    by_cases hlen : c.length < 2
    · rw [if_pos hlen]
      have step : ∀ (t : List Int), (∀ j : Int, 0 ≤ j → j < s.cl.length → j < i ∨ 2 ≤ (rdL s.cl j).length → Fine t 0 (rdL s.cl j)) → Fine t 0 c → ∀ j : Int, 0 ≤ j → j < s.cl.length → j < ((i + 1 : Nat) : Int) ∨ 2 ≤ (rdL s.cl j).length → Fine t 0 (rdL s.cl j) := by
        intro t ht hc2 j j0 j1 hj
        by_cases e : j = i
        · rw [e, hc]; exact hc2
        · exact ht j j0 j1 (hj.imp (fun _ => by omega) id)
      rcases look_spec h (i := (i : Int)) (by omega) (by omega) with ⟨e, hok⟩ | ⟨e, hbad⟩ | ⟨n, hn, e, hop, hu⟩
      · rw [e]
        dsimp only
        rw [if_neg (by simp)]
        rw [hc] at hok
        have hok2 : Fine s.trail 0 c := hok.imp id .inl
        exact beginFrom_spec h ho hd hl2 hs (step _ hf hok2)
      · rw [e]
        dsimp only
        rw [if_pos rfl]
        exact ⟨hs, fun h1 => by dsimp only at h1; omega, fun _ => ⟨_, rdL_mem (by omega) (by omega), fun m hm => hs _ (hbad m hm)⟩⟩
      · rw [e]
        dsimp only
        rw [if_neg (by simp)]
        have hlit := h.lits _ (h.clause (i := (i : Int)) (by omega) (by omega)) n hn
        have h2 : (s.assume n i).Ok := h.assume hlit ((lit_zero h hlit).2 hop)
        have := beginFrom_spec (l := l) (i := i + 1) (s := s.assume n i) h2 ho hd hl2 (fun m hm => by
          rcases List.mem_append.1 (show m ∈ s.trail ++ [n] from hm) with hm | hm
          · exact hs m hm
          · rw [List.mem_singleton.1 hm]
            exact .unit (rdL_mem (l := s.cl) (j := (i : Int)) (by omega) (by omega)) hn (fun q hq hne => hs _ (hu q hq hne))) (step (s.trail ++ [n]) (fun j j0 j1 hj => (hf j j0 j1 hj).assume (by omega)) (.inl ⟨n, hc ▸ hn, by simp⟩))
        exact this
    · rw [if_neg hlen]
      refine beginFrom_spec h ho hd hl2 hs (fun j j0 j1 hj => ?_)
      by_cases e : j = i
      · exact hf j j0 j1 (.inr (by rw [e, hc]; omega))
      · exact hf j j0 j1 (hj.imp (fun _ => by omega) id)
theorem begin_spec {s : Sv} (h : s.Ok) (ho : Listed s.cl s.occ) (hd : s.done = 0) (ht : s.trail = []) :
    (∀ n ∈ s.begin.2.trail, Der s.cl (fun _ => False) n) ∧ (s.begin.1 < 0 → Closed s.cl s.begin.2.trail) ∧ (¬ s.begin.1 < 0 → Bad s.cl (fun _ => False)) := by
  unfold Sv.begin
  refine beginFrom_spec h ho hd rfl (by rw [ht]; simp) (fun j j0 j1 hj => ?_)
  rcases hj with hj | hj
  · omega
  · refine .inr (.inl ?_)
    rw [ht, show (rdL s.cl j).countP (Op []) = (rdL s.cl j).length from List.countP_eq_length.2 (fun n _ => by unfold Op; simp)]
    exact hj
end Go.Proofs.Ytapbkoolddnjgaa.Pure
