/- What the claim needs of Sl: lemmas and contracts, cut by a program to what is used. -/
import Derived.Test.YtapbkoolddnjgaaQfWMore
set_option linter.unusedVariables false
set_option linter.unusedSimpArgs false
namespace Go.Proofs.Sl
open Go.RowKit Go.Proofs.YtapbkoolddnjgaaW.PrintWords
structure Asn where
  H : (Nat → Prop) → World → Prop
  move : ∀ {F : Nat → Prop} {w w' : World}, (∀ b, F b → w'.heap[b]? = w.heap[b]?) → H F w → H F w'
  lt : ∀ {F : Nat → Prop} {w : World} {b : Nat}, H F w → F b → b < w.heap.size
def Sep : List Asn → (Nat → Prop) → World → Prop
  | [], F, _ => ∀ b, ¬ F b
  | A :: L, F, w => ∃ F1 F2 : Nat → Prop, (∀ b, F b ↔ F1 b ∨ F2 b) ∧ (∀ b, F1 b → ¬ F2 b) ∧ A.H F1 w ∧ Sep L F2 w
theorem Sep.move {w w' : World} : ∀ {L : List Asn} {F : Nat → Prop}, (∀ b, F b → w'.heap[b]? = w.heap[b]?) → Sep L F w → Sep L F w'
  | [], _, _, h => h
  | A :: L, F, hm, h => by
    obtain ⟨F1, F2, he, hd, hA, hL⟩ := h
    exact ⟨F1, F2, he, hd, A.move (fun b hb => hm b ((he b).2 (.inl hb))) hA, Sep.move (fun b hb => hm b ((he b).2 (.inr hb))) hL⟩
theorem Sep.lt {w : World} : ∀ {L : List Asn} {F : Nat → Prop}, Sep L F w → ∀ b, F b → b < w.heap.size
  | [], _, h, b, hb => absurd hb (h b)
  | A :: L, F, h, b, hb => by
    obtain ⟨F1, F2, he, _, hA, hL⟩ := h
    rcases (he b).1 hb with h1 | h2
    · exact A.lt hA h1
    · exact Sep.lt hL b h2
theorem Sep.congr {w : World} : ∀ {L : List Asn} {F G : Nat → Prop}, (∀ b, F b ↔ G b) → Sep L F w → Sep L G w
  | [], _, _, e, h => fun b hb => h b ((e b).2 hb)
  | A :: L, F, G, e, h => by
    obtain ⟨F1, F2, he, hd, hA, hL⟩ := h
    exact ⟨F1, F2, fun b => (e b).symm.trans (he b), hd, hA, hL⟩
theorem Sep.focus {w : World} : ∀ {L : List Asn} {F : Nat → Prop} {i : Nat} {A : Asn}, L[i]? = some A → Sep L F w →
    ∃ F1 F2 : Nat → Prop, (∀ b, F b ↔ F1 b ∨ F2 b) ∧ (∀ b, F1 b → ¬ F2 b) ∧ A.H F1 w ∧
      ∀ (w' : World) (B : Asn) (G : Nat → Prop), B.H G w' → (∀ b, F2 b → w'.heap[b]? = w.heap[b]?) → (∀ b, G b → ¬ F2 b) → Sep (L.set i B) (fun b => G b ∨ F2 b) w'
  | [], _, i, A, h, _ => by simp at h
  | X :: L, F, 0, A, h, hs => by
    obtain rfl : X = A := by simpa using h
    obtain ⟨F1, F2, he, hd, hA, hL⟩ := hs
    exact ⟨F1, F2, he, hd, hA, fun w' B G hB hm hG => ⟨G, F2, fun _ => Iff.rfl, hG, hB, Sep.move hm hL⟩⟩
  | X :: L, F, i + 1, A, h, hs => by
    obtain ⟨F1, F2, he, hd, hX, hL⟩ := hs
    obtain ⟨G1, G2, ge, gd, hA, hput⟩ := Sep.focus (L := L) (i := i) (by simpa using h) hL
    refine ⟨G1, fun b => F1 b ∨ G2 b, fun b => ?_, fun b h1 h2 => ?_, hA, fun w' B G hB hm hG => ?_⟩
    · rw [he b, ge b]
      constructor
      · rintro (h | h | h)
        · exact .inr (.inl h)
        · exact .inl h
        · exact .inr (.inr h)
      · rintro (h | h | h)
        · exact .inr (.inl h)
        · exact .inl h
        · exact .inr (.inr h)
    · rcases h2 with h2 | h2
      · exact hd b h2 ((ge b).2 (.inl h1))
      · exact gd b h1 h2
    · have hs := hput w' B G hB (fun b hb => hm b (.inr hb)) (fun b hb h2 => hG b hb (.inr h2))
      refine ⟨F1, fun b => G b ∨ G2 b, fun b => ?_, fun b h1 h2 => ?_, X.move (fun b hb => hm b (.inl hb)) hX, hs⟩
      · constructor
        · rintro (h | h | h)
          · exact .inr (.inl h)
          · exact .inl h
          · exact .inr (.inr h)
        · rintro (h | h | h)
          · exact .inr (.inl h)
          · exact .inl h
          · exact .inr (.inr h)
      · rcases h2 with h2 | h2
        · exact hG b h2 (.inl h1)
        · exact hd b h1 ((ge b).2 (.inr h2))
structure St (w0 w : World) (L : List Asn) : Prop where
  below : Below w0.heap.size w0 w
  sep : ∃ F, Sep L F w ∧ ∀ b, F b → w0.heap.size ≤ b
section
variable {w0 w w' : World} {L : List Asn}
theorem St.start (w : World) : St w w [] := ⟨Below.refl _ _, fun _ => False, fun _ h => h, fun _ h => h.elim⟩
theorem St.mv (h : St w0 w L) (hb : Below w.heap.size w w') : St w0 w' L := by
  obtain ⟨F, hs, hF⟩ := h.sep
  exact ⟨below_step h.below hb, F, hs.move (fun b hb' => hb.block b (hs.lt b hb')), hF⟩
theorem St.drew (h : St w0 w L) : St w0 w.drew L := h.mv (below_drew (Below.refl _ _))
theorem St.drewN (h : St w0 w L) (n : Nat) : St w0 (w.drewN n) L := h.mv (pw_below_drewN (Below.refl _ _) n)
theorem St.alloc' (h : St w0 w L) (o : Obj) : St w0 (w.alloc o) L := h.mv (below_alloc (Below.refl _ _) o)
theorem St.upd (h : St w0 w L) {i : Nat} {A : Asn} (hi : L[i]? = some A) (B : Asn)
    (hos : w'.os = w.os) (ht : w'.tape = w.tape) (ho : w'.output = w.output) (hsz : w.heap.size ≤ w'.heap.size)
    (hc : ∀ F1 : Nat → Prop, A.H F1 w → (∀ b, F1 b → w0.heap.size ≤ b) → ∃ G : Nat → Prop, B.H G w' ∧ (∀ b, G b → F1 b ∨ w.heap.size ≤ b) ∧ ∀ b, b < w.heap.size → ¬ F1 b → w'.heap[b]? = w.heap[b]?) :
    St w0 w' (L.set i B) := by
  obtain ⟨F, hs, hF⟩ := h.sep
  obtain ⟨F1, F2, he, hd, hA, hput⟩ := Sep.focus hi hs
  obtain ⟨G, hB, hG, hk⟩ := hc F1 hA (fun b hb => hF b ((he b).2 (.inl hb)))
  have hlt2 : ∀ b, F2 b → b < w.heap.size := fun b hb => hs.lt b ((he b).2 (.inr hb))
  refine ⟨⟨hos.trans h.below.os, ht.trans h.below.tape, ho.trans h.below.output, Nat.le_trans h.below.size hsz, fun k hk' => (hk k (Nat.lt_of_lt_of_le hk' h.below.size) (fun h1 => by have := hF k ((he k).2 (.inl h1)); omega)).trans (h.below.block k hk')⟩,
    fun b => G b ∨ F2 b, hput w' B G hB (fun b hb => hk b (hlt2 b hb) (fun h1 => hd b h1 hb)) (fun b hb h2 => ?_), fun b hb => ?_⟩
  · rcases hG b hb with h1 | h1
    · exact hd b h1 h2
    · have := hlt2 b h2; omega
  · rcases hb with hb | hb
    · rcases hG b hb with h1 | h1
      · exact hF b ((he b).2 (.inl h1))
      · exact Nat.le_trans h.below.size h1
    · exact hF b ((he b).2 (.inr hb))
theorem St.new (h : St w0 w L) (hb : Below w.heap.size w w') (B : Asn) (G : Nat → Prop) (hB : B.H G w') (hG : ∀ b, G b → w.heap.size ≤ b) : St w0 w' (B :: L) := by
  obtain ⟨F, hs, hF⟩ := h.sep
  exact ⟨below_step h.below hb, fun b => G b ∨ F b, ⟨G, F, fun _ => Iff.rfl, fun b h1 h2 => by have := hs.lt b h2; have := hG b h1; omega, hB, hs.move (fun b hb' => hb.block b (hs.lt b hb'))⟩,
    fun b hb' => hb'.elim (fun h1 => Nat.le_trans h.below.size (hG b h1)) (hF b)⟩
theorem Sep.drop_ : ∀ {L : List Asn} {F : Nat → Prop} (i : Nat), Sep L F w → ∃ G, Sep (L.eraseIdx i) G w ∧ ∀ b, G b → F b
  | [], F, i, h => ⟨F, by simpa using h, fun _ h => h⟩
  | A :: L, F, 0, h => by
    obtain ⟨F1, F2, he, _, _, hL⟩ := h
    exact ⟨F2, hL, fun b hb => (he b).2 (.inr hb)⟩
  | A :: L, F, i + 1, h => by
    obtain ⟨F1, F2, he, hd, hA, hL⟩ := h
    obtain ⟨G, hG, hsub⟩ := Sep.drop_ i hL
    refine ⟨fun b => F1 b ∨ G b, ⟨F1, G, fun _ => Iff.rfl, fun b h1 h2 => hd b h1 (hsub b h2), hA, hG⟩, fun b hb => (he b).2 (hb.imp id (hsub b))⟩
theorem St.drop (h : St w0 w L) (i : Nat) : St w0 w (L.eraseIdx i) := by
  obtain ⟨F, hs, hF⟩ := h.sep
  obtain ⟨G, hG, hsub⟩ := hs.drop_ i
  exact ⟨h.below, G, hG, fun b hb => hF b (hsub b hb)⟩
theorem Sep.swap_ : ∀ {L : List Asn} {F : Nat → Prop} {A B : Asn}, Sep (A :: B :: L) F w → Sep (B :: A :: L) F w := by
  intro L F A B h
  obtain ⟨F1, F2, he, hd, hA, G1, G2, ge, gd, hB, hL⟩ := h
  refine ⟨G1, fun b => F1 b ∨ G2 b, fun b => ?_, fun b h1 h2 => ?_, hB, F1, G2, fun _ => Iff.rfl, fun b h1 h2 => hd b h1 ((ge b).2 (.inr h2)), hA, hL⟩
  · rw [he b, ge b]
    constructor
    · rintro (h | h | h)
      · exact .inr (.inl h)
      · exact .inl h
      · exact .inr (.inr h)
    · rintro (h | h | h)
      · exact .inr (.inl h)
      · exact .inl h
      · exact .inr (.inr h)
  · rcases h2 with h2 | h2
    · exact hd b h2 ((ge b).2 (.inl h1))
    · exact gd b h1 h2
theorem Sep.perm {L L' : List Asn} (hp : L.Perm L') : ∀ {F : Nat → Prop}, Sep L F w → Sep L' F w := by
  induction hp with
  | nil => exact fun h => h
  | cons A _ ih =>
    intro F h
    obtain ⟨F1, F2, he, hd, hA, hL⟩ := h
    exact ⟨F1, F2, he, hd, hA, ih hL⟩
  | swap A B L => exact fun h => Sep.swap_ h
  | trans _ _ ih1 ih2 => exact fun h => ih2 (ih1 h)
theorem St.perm {L' : List Asn} (h : St w0 w L) (hp : L.Perm L') : St w0 w L' := by
  obtain ⟨F, hs, hF⟩ := h.sep
  exact ⟨h.below, F, hs.perm hp, hF⟩
theorem perm_front : ∀ {L : List Asn} {i : Nat} {A : Asn}, L[i]? = some A → L.Perm (A :: L.eraseIdx i)
  | [], i, A, h => by simp at h
  | X :: L, 0, A, h => by
    obtain rfl : X = A := by simpa using h
    simp
  | X :: L, i + 1, A, h => by
    have := perm_front (L := L) (i := i) (A := A) (by simpa using h)
    simpa using (this.cons X).trans (List.Perm.swap A X _)
theorem St.front (h : St w0 w L) {i : Nat} {A : Asn} (hi : L[i]? = some A) : St w0 w (A :: L.eraseIdx i) := h.perm (perm_front hi)
theorem St.holds (h : St w0 w L) {i : Nat} {A : Asn} (hi : L[i]? = some A) : ∃ F : Nat → Prop, A.H F w ∧ ∀ b, F b → w0.heap.size ≤ b := by
  obtain ⟨F, hs, hF⟩ := h.sep
  obtain ⟨F1, F2, he, _, hA, _⟩ := Sep.focus hi hs
  exact ⟨F1, hA, fun b hb => hF b ((he b).2 (.inl hb))⟩
theorem St.trans {w1 : World} {M : List Asn} (h : St w0 w L) (h2 : St w w1 M) : St w0 w1 (M ++ L) := by
  obtain ⟨G, hG, hGl⟩ := h2.sep
  have key : ∀ {M : List Asn} {G : Nat → Prop}, Sep M G w1 → (∀ b, G b → w.heap.size ≤ b) → St w0 w1 L → ∀ F, Sep L F w1 → (∀ b, F b → b < w.heap.size) → (∀ b, F b → w0.heap.size ≤ b) → ∃ F', Sep (M ++ L) F' w1 ∧ ∀ b, F' b → G b ∨ F b := by
    intro M
    induction M with
    | nil => exact fun _ _ _ F hF _ _ => ⟨F, hF, fun b hb => .inr hb⟩
    | cons A M ih =>
      intro G hG hGl hst F hF hlt hle
      obtain ⟨F1, F2, he, hd, hA, hM⟩ := hG
      obtain ⟨F', hF', hsub⟩ := ih hM (fun b hb => hGl b ((he b).2 (.inr hb))) hst F hF hlt hle
      refine ⟨fun b => F1 b ∨ F' b, ⟨F1, F', fun _ => Iff.rfl, fun b h1 h2 => ?_, hA, hF'⟩, fun b hb => ?_⟩
      · rcases hsub b h2 with h3 | h3
        · exact hd b h1 h3
        · have := hlt b h3; have := hGl b ((he b).2 (.inl h1)); omega
      · rcases hb with hb | hb
        · exact .inl ((he b).2 (.inl hb))
        · rcases hsub b hb with h3 | h3
          · exact .inl ((he b).2 (.inr h3))
          · exact .inr h3
  have hm := h.mv h2.below
  obtain ⟨F, hs, hF⟩ := h.sep
  obtain ⟨F', hF', hsub⟩ := key hG hGl hm F (hs.move (fun b hb' => h2.below.block b (hs.lt b hb'))) (fun b hb => hs.lt b hb) hF
  exact ⟨hm.below, F', hF', fun b hb => (hsub b hb).elim (fun h1 => Nat.le_trans h.below.size (hGl b h1)) (hF b)⟩
end
def box (g : Nat) (T : TypeId) (cs : Array Value) : Asn where
  H F w := (∀ b, F b ↔ b = g) ∧ w.heap[g]? = some (.cells cs T (0, 0))
  move hm h := ⟨h.1, (hm g ((h.1 g).2 rfl)).trans h.2⟩
  lt h hb := by have := (h.1 _).1 hb; subst this; exact blk_lt h.2
theorem lt_move {w w' : World} {b : Nat} (e : w'.heap[b]? = w.heap[b]?) (h : b < w.heap.size) : b < w'.heap.size := by
  rcases Nat.lt_or_ge b w'.heap.size with h2 | h2
  · exact h2
  · rw [Array.getElem?_eq_none h2, Array.getElem?_eq_getElem h] at e; simp at e
def row {α : Type} (B : Nat) (d : Kd α) (e : TypeId) (v : Value) (xs : List α) : Asn where
  H F w := d.R e w B F v xs ∧ ∀ b, F b → b < w.heap.size
  move hm h := ⟨Kd.R_move h.1 hm, fun b hb => lt_move (hm b hb) (h.2 b hb)⟩
  lt h hb := h.2 _ hb
section
variable {w0 w w' : World} {L : List Asn}
theorem St.box_at (h : St w0 w L) {i g : Nat} {T : TypeId} {cs : Array Value} (hi : L[i]? = some (box g T cs)) : w.heap[g]? = some (.cells cs T (0, 0)) ∧ w0.heap.size ≤ g := by
  obtain ⟨F, hF, hl⟩ := h.holds hi
  exact ⟨hF.2, hl g ((hF.1 g).2 rfl)⟩
theorem St.box_cell (h : St w0 w L) {i g : Nat} {T : TypeId} {cs : Array Value} (hi : L[i]? = some (box g T cs)) (j : Nat) : w.cell? ⟨g, j, none⟩ = cs[j]? := blk_cell (h.box_at hi).1 j
theorem St.box_free (h : St w0 w L) {i g : Nat} {T : TypeId} {cs : Array Value} (hi : L[i]? = some (box g T cs)) (j : Nat) : w.frozen? ⟨g, j, none⟩ = false := blk_frozen (h.box_at hi).1 j
theorem St.box_new (h : St w0 w L) (T : TypeId) (cs : Array Value) : St w0 (w.alloc (.cells cs T)) (box w.heap.size T cs :: L) :=
  h.new (below_alloc (Below.refl _ _) _) _ (fun b => b = w.heap.size) ⟨fun _ => Iff.rfl, by simpa using heap_alloc_new w _⟩ (fun b hb => Nat.le_of_eq hb.symm)
theorem St.box_set (h : St w0 w L) {i g : Nat} {T : TypeId} {cs : Array Value} (hi : L[i]? = some (box g T cs)) (j : Nat) (u : Value) : St w0 (w.setCell ⟨g, j, none⟩ u) (L.set i (box g T (cs.setIfInBounds j u))) := by
  refine h.upd hi _ rfl rfl rfl (by simp [World.setCell]) (fun F1 hF _ => ⟨F1, ⟨hF.1, by simpa using blk_set hF.2 j u⟩, fun b hb => .inl hb, fun b _ hn => Below.heap_setCell w _ u b (fun e => hn ((hF.1 b).2 e))⟩)
theorem St.row_new {α : Type} {d : Kd α} {e : TypeId} {v : Value} {xs : List α} {ok : Nat → Prop} (h : St w0 w L) (hb : Below w.heap.size w w') (hr : d.R e w' w.heap.size ok v xs) : St w0 w' (row w0.heap.size d e v xs :: L) :=
  h.new hb _ (fun b => w.heap.size ≤ b ∧ b < w'.heap.size) ⟨Kd.R_lower (Kd.R_mono (Kd.R_bound hr) (fun k hk => ⟨hk.2.1, hk.2.2.1⟩)) h.below.size, fun b hb => hb.2⟩ (fun b hb => hb.1)
theorem St.row_nil {α : Type} (d : Kd α) (e : TypeId) (h : St w0 w L) : St w0 w (row w0.heap.size d e (.slice none 0 0) ([] : List α) :: L) :=
  h.new (Below.refl _ _) _ (fun _ => False) ⟨Kd.R_nil _ _ _ _ _, fun b hb => hb.elim⟩ (fun b hb => hb.elim)
theorem St.row_reads {α : Type} {B : Nat} {d : Kd α} {e : TypeId} {v : Value} {xs : List α} (h : St w0 w L) {i : Nat} (hi : L[i]? = some (row B d e v xs)) : ∃ A c, v = .slice A xs.length c ∧ xs.length ≤ c ∧ d.C w A xs.length xs := by
  obtain ⟨F, hF, hl⟩ := h.holds hi
  exact Kd.R_reads hF.1
theorem St.row_out {α : Type} {B : Nat} {d : Kd α} {e : TypeId} {v : Value} {xs : List α} (h : St w0 w L) {i : Nat} (hi : L[i]? = some (row B d e v xs)) : d.R e w B (fun _ => True) v xs := by
  obtain ⟨F, hF, hl⟩ := h.holds hi
  exact Kd.R_mono hF.1 (fun _ _ => trivial)
end
def eachRun {α σ : Type} (step : σ → Nat → α → Int × σ) : σ → Nat → List α → (Int × Int) × σ
  | s, _, [] => ((0, 0), s)
  | s, i, x :: l => if (step s i x).1 = 0 then eachRun step (step s i x).2 (i + 1) l else ((((i : Nat) : Int), (step s i x).1), (step s i x).2)
def rdL (xs : List (List Int)) (i : Int) : List Int := xs.getD i.toNat []
theorem at_rows {w : World} {A : Option Addr} {n : Nat} {xs : List (List Int)} {e : Nat} {k : IntKind} (h : Kd.C (Kd.slice e (Kd.int k)) w A n xs) (i : Int) (h0 : 0 ≤ i) (h1 : i < n) :
    ∃ ad A0 c0, A = some ad ∧ w.cell? (ad.add i.toNat) = some (.slice A0 (rdL xs i).length c0) ∧ (rdL xs i).length ≤ c0 ∧ (Kd.int k).C w A0 (rdL xs i).length (rdL xs i) := by
  obtain ⟨ad, c, e, _, hK, hc0⟩ := Kd.C_get h ([] : List Int) i h0 h1
  have hc : ∀ j u, c[j]? = some u → w.cell? (ad.add (i.toNat * 1 + j)) = some u := hc0
  obtain ⟨A0, c0, rfl, l0, g0⟩ := hK
  exact ⟨ad, A0, c0, e, by have hq := hc 0 _ rfl; rwa [Nat.mul_one, Nat.add_zero] at hq, l0, g0⟩
theorem C_of_block {w : World} {g : Nat} {T : TypeId} {k : IntKind} {xs : List Int} (h : w.heap[g]? = some (.cells (nums k xs).toArray T (0, 0))) (hn : xs.length ≤ 9223372036854775807) : Kd.C (Kd.int k) w (some ⟨g, 0, none⟩) xs.length xs := by
  refine ⟨rfl, hn, fun _ => ⟨_, rfl, fun j p hp => ⟨[.int k p], rfl, rfl, fun i u hu => ?_⟩⟩⟩
  have hi : i = 0 := by
    rcases i with _ | i
    · rfl
    · simp at hu
  subst hi
  have hu' : u = .int k p := by simpa using hu.symm
  subst hu'
  have : (Kd.int k).sz = 1 := rfl
  rw [this, add_plain, Nat.mul_one, Nat.add_zero, blk_cell h]
  simp [nums, hp]
def findFrom {α : Type} (p : α → Bool) : Nat → List α → Int
  | _, [] => -1
  | i, x :: l => if p x = true then (i : Int) else findFrom p (i + 1) l
theorem findFrom_any {α : Type} (p : α → Bool) : ∀ (l : List α) (i : Nat), decide (findFrom p i l ≥ 0) = l.any p
  | [], i => by simp [findFrom]
  | x :: l, i => by
    unfold findFrom
    by_cases h : p x = true
    · rw [if_pos h]; simp [h]
    · rw [if_neg h, findFrom_any p l (i + 1)]; simp [h]
section
variable {w0 w w' : World} {L : List Asn}
theorem St.focus (h : St w0 w L) {i : Nat} {A : Asn} (hi : L[i]? = some A) : ∃ F1 : Nat → Prop, A.H F1 w ∧ (∀ b, F1 b → w0.heap.size ≤ b) ∧
    ∀ (w' : World) (B : Asn) (G : Nat → Prop), w'.os = w.os → w'.tape = w.tape → w'.output = w.output → w.heap.size ≤ w'.heap.size → B.H G w' → (∀ b, G b → F1 b ∨ w.heap.size ≤ b) → (∀ b, b < w.heap.size → ¬ F1 b → w'.heap[b]? = w.heap[b]?) → St w0 w' (L.set i B) := by
  obtain ⟨F, hs, hF⟩ := h.sep
  obtain ⟨F1, F2, he, hd, hA, hput⟩ := Sep.focus hi hs
  refine ⟨F1, hA, fun b hb => hF b ((he b).2 (.inl hb)), fun w' B G hos ht ho hsz hB hG hk => ?_⟩
  have hlt2 : ∀ b, F2 b → b < w.heap.size := fun b hb => hs.lt b ((he b).2 (.inr hb))
  refine ⟨⟨hos.trans h.below.os, ht.trans h.below.tape, ho.trans h.below.output, Nat.le_trans h.below.size hsz, fun k hk' => (hk k (Nat.lt_of_lt_of_le hk' h.below.size) (fun h1 => by have := hF k ((he k).2 (.inl h1)); omega)).trans (h.below.block k hk')⟩,
    fun b => G b ∨ F2 b, hput w' B G hB (fun b hb => hk b (hlt2 b hb) (fun h1 => hd b h1 hb)) (fun b hb h2 => ?_), fun b hb => ?_⟩
  · rcases hG b hb with h1 | h1
    · exact hd b h1 h2
    · have := hlt2 b h2; omega
  · rcases hb with hb | hb
    · rcases hG b hb with h1 | h1
      · exact hF b ((he b).2 (.inl h1))
      · exact Nat.le_trans h.below.size h1
    · exact hF b ((he b).2 (.inr hb))
theorem St.row_put {α : Type} {d : Kd α} {i : Nat} {e : TypeId} {v v1 : Value} {xs ys : List α} {F1 : Nat → Prop} {B : Nat} (hR : d.R e w B F1 v xs)
    (hput : ∀ (w' : World) (B : Asn) (G : Nat → Prop), w'.os = w.os → w'.tape = w.tape → w'.output = w.output → w.heap.size ≤ w'.heap.size → B.H G w' → (∀ b, G b → F1 b ∨ w.heap.size ≤ b) → (∀ b, b < w.heap.size → ¬ F1 b → w'.heap[b]? = w.heap[b]?) → St w0 w' (L.set i B))
    (h1 : d.R e w' B (fun k => F1 k ∨ w.heap.size ≤ k) v1 ys) (hg : w.grownBy w' v.ownBlock) : St w0 w' (L.set i (row B d e v1 ys)) :=
  hput w' _ (fun k => (F1 k ∨ w.heap.size ≤ k) ∧ k < w'.heap.size) hg.os hg.tape hg.output hg.size ⟨Kd.R_mono (Kd.R_bound h1) (fun k hk => ⟨hk.1, hk.2.2.1⟩), fun b hb => hb.2⟩ (fun b hb => hb.1)
    (fun b hb hn => hg.block b hb (fun e => hn (hR.1 b e.symm)))
end
section
variable {P : Program} {ops : Array Oper} {rest : List Oper} {o : Oper} {a : Act} {Q : Exit → Act → World → Prop} {w0 W : World} {L : List Asn}
theorem st_append_int (H : St w0 W L) {i : Nat} {k : IntKind} {e : TypeId} {v : Value} {xs : List Int} (hi : L[i]? = some (row w0.heap.size (Kd.int k) e v xs)) (hgd : o.guard = none) (s x : Operand) (t : TypeId) (bytes : Nat) (y : Int)
    (ho : o.op = .call { callee := .builtin .append, args := #[s, x], argTypes := #[t, t] })
    (ht : P.underlying t = some (.slice e)) (hinfo : (P.info? e).map (fun i => (i.zero, i.size, i.bytes)) = some (some (.int k 0), 1, bytes)) (hb0 : 0 < bytes)
    (hs : a.eval s = v) (hx : a.eval x = .slice (some ⟨W.heap.size, 0, none⟩) 1 1) (hl : (xs.length + 1) * bytes ≤ 140737488355328)
    (h : ∀ v1 w1, St w0 w1 (L.set i (row w0.heap.size (Kd.int k) e v1 (xs ++ [y]))) → wpList P ops Q rest (a.put o.dst v1) w1) :
    wpList P ops Q (o :: rest) a (W.alloc (.cells #[.int k y] e)) := by
  obtain ⟨F1, hA, _, hput⟩ := H.focus hi
  refine Kd.R_append (Kd.int k) (w0 := w0) (W := W) w0.heap.size hgd s x t e (.int k 0) bytes ho ht hinfo rfl (Nat.zero_lt_one) hb0 v xs y [.int k y] (fun b => F1 b ∨ W.heap.size ≤ b) (fun _ => False) hs hx rfl (fun _ h => h.elim) (fun _ h => .inr h)
    (Kd.R_mono hA.1 (fun _ h => .inl h)) H.below H.below.size hl ?_
  intro v1 w1 h1 _ hg _
  exact h v1 w1 (St.row_put hA.1 hput h1 hg)
end
end Go.Proofs.Sl
