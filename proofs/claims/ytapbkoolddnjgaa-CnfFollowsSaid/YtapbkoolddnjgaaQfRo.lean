/- What the claim needs of Ro: lemmas and contracts, cut by a program to what is used. -/
import Derived.Test.YtapbkoolddnjgaaQfSl
import Derived.Deep.Slices
import Derived.WideShapes
import Derived.OpenShut
set_option linter.unusedVariables false
namespace Go.Proofs.Sl
open Go.RowKit Go.ChangeShapes Go.WideShapes Go.Proofs.YtapbkoolddnjgaaW.PrintWords
structure Opens (P : Program) (t : TypeId) {α : Type} (d : Kd α) (wf : α → Prop) : Prop where
  out : ∀ {H : Type} (enc : TypeId × Value → H) (w : World) (fuel : Nat) (cs : List Value) (x : DataW H × List MemPlace), DataW.trod enc P w 0 (fun _ => true) true fuel t cs = some x → ∃ a : α, d.K w a cs ∧ wf a
section
variable {P : Program} {t : TypeId} {α β : Type}
theorem Opens.int {k : IntKind} (hu : P.underlying t = some (.int k)) : Opens P t (Kd.int k) (fun n => (Lit.int k n).wf = true) := by
  refine ⟨?_⟩
  intro H enc w fuel cs x h
  obtain ⟨n, h1, _, h3⟩ := DataW.trod_int hu h
  exact ⟨n, h1, h3⟩
theorem Opens.bool (hu : P.underlying t = some .bool) : Opens P t Kd.bool (fun _ => True) := by
  refine ⟨?_⟩
  intro H enc w fuel cs x h
  obtain ⟨b, h1, _⟩ := DataW.trod_bool hu h
  exact ⟨b, h1, trivial⟩
theorem Opens.iso {d : Kd α} (wf : α → Prop) (h : Opens P t d wf) (f : β → α) (g : α → β) (hfg : ∀ a, f (g a) = a) : Opens P t (Kd.iso d f) (fun b => wf (f b)) := by
  refine ⟨?_⟩
  intro H enc w fuel cs x hx
  obtain ⟨a, hK, hw⟩ := h.out enc w fuel cs x hx
  exact ⟨g a, by show d.K w (f (g a)) cs; rw [hfg]; exact hK, by show wf (f (g a)); rw [hfg]; exact hw⟩
theorem cells_get {w : World} {b : Nat} {a : Addr} : ∀ {n : Nat} {cs : List Value}, w.cells? b a n = some cs → cs.length = n ∧ ∀ (i : Nat) (u : Value), cs[i]? = some u → w.cell? (a.add i) = some u := by
  intro n cs h
  unfold World.cells? at h
  split at h
  · have hl := mapM_some_length h
    refine ⟨by simpa using hl, fun i u hu => ?_⟩
    have hi : i < n := by have := (List.getElem?_eq_some_iff.1 hu).1; simp at hl; omega
    have := mapM_some_get h i i (by simp [hi])
    rw [this, hu]
  · simp at h
theorem addr_add (a : Addr) (i j : Nat) : (a.add i).add j = a.add (i + j) := Deep.add_add a i j
theorem Opens.slice {e : TypeId} {d : Kd α} (wf : α → Prop) (hu : P.underlying t = some (.slice e)) (hc : P.cellsOf e = d.sz) (z : α) (h : Opens P e d wf) : Opens P t (Kd.slice e d) (fun l => ∀ x ∈ l, wf x) := by
  refine ⟨?_⟩
  intro H enc w fuel cs x hx
  rcases Deep.open_slice hu hx with ⟨rfl, _⟩ | ⟨a, len, cap, m, n, D, Pl, rfl, _, hl, hm, hmm, _, hel⟩
  · exact ⟨[], ⟨none, 0, rfl, Nat.le_refl _, rfl, by simp, fun hp => absurd hp (by simp)⟩, fun x hx => by simp at hx⟩
  · simp only [if_true] at hmm
    subst hmm
    have each : ∀ i, i < len → ∃ y : α × List Value, w.cells? 0 (a.add (i * P.cellsOf e)) (P.cellsOf e) = some y.2 ∧ d.K w y.1 y.2 ∧ wf y.1 := by
      intro i hi
      obtain ⟨cs', h1, h2⟩ := hel i (by omega)
      obtain ⟨y, hK, hw⟩ := h.out enc w _ _ _ h2
      exact ⟨(y, cs'), h1, hK, hw⟩
    haveI : Inhabited (α × List Value) := ⟨(z, [])⟩
    obtain ⟨y, hy⟩ := Deep.choose_lt each
    refine ⟨(List.range len).map (fun i => (y i).1), ⟨some a, m, by simp, by simpa using hl, rfl, ?_, ?_⟩, ?_⟩
    · unfold maxLen at hm; simp; omega
    · intro _
      refine ⟨a, rfl, fun j p hj => ?_⟩
      have hjl : j < len := by have := (List.getElem?_eq_some_iff.1 hj).1; simpa using this
      have hp : p = (y j).1 := by simp [hjl] at hj; exact hj.symm
      obtain ⟨h1, h2, h3⟩ := hy j hjl
      obtain ⟨h4, h5⟩ := cells_get h1
      rw [hc] at h4
      refine ⟨(y j).2, h4, hp ▸ h2, fun i u hu => ?_⟩
      have := h5 i u hu
      rw [addr_add, hc] at this
      exact this
    · intro x hx
      obtain ⟨i, hi, rfl⟩ := List.mem_map.1 hx
      exact (hy i (by simpa using hi)).2.2
structure OpensF (P : Program) (fs : List Field) (off : Nat) {α : Type} (d : Kd α) (wf : α → Prop) : Prop where
  out : ∀ {H : Type} (enc : TypeId × Value → H) (w : World) (fuel : Nat) (cs : List Value) (xs : List (DataW H × List MemPlace)), cs.length = off + d.sz → xs.length = fs.length →
    (∀ (i : Nat) (f : Field), fs[i]? = some f → DataW.trod enc P w 0 (fun _ => true) true fuel f.type ((cs.drop f.offset).take (P.cellsOf f.type)) = xs[i]?) → ∃ a : α, d.K w a (cs.drop off) ∧ wf a
theorem OpensF.one {f : Field} {off : Nat} {d : Kd α} (wf : α → Prop) (h : Opens P f.type d wf) (ho : f.offset = off) (hc : P.cellsOf f.type = d.sz) : OpensF P [f] off d wf := by
  refine ⟨?_⟩
  intro H enc w fuel cs xs hl hx hf
  have h0 := hf 0 f rfl
  obtain ⟨x, rfl⟩ : ∃ x, xs = [x] := by
    match xs, hx with
    | [x], _ => exact ⟨x, rfl⟩
  obtain ⟨a, hK, hw⟩ := h.out enc w fuel _ x h0
  rw [ho, hc, List.take_of_length_le (by simp; omega)] at hK
  exact ⟨a, hK, hw⟩
theorem OpensF.cons {f : Field} {fs : List Field} {off : Nat} {d : Kd α} (wf : α → Prop) {d' : Kd β} (wf' : β → Prop) (h : Opens P f.type d wf) (ho : f.offset = off) (hc : P.cellsOf f.type = d.sz) (hr : OpensF P fs (off + d.sz) d' wf') :
    OpensF P (f :: fs) off (Kd.pair d d') (fun x => wf x.1 ∧ wf' x.2) := by
  refine ⟨?_⟩
  intro H enc w fuel cs xs hl hx hf
  have hl' : cs.length = off + (d.sz + d'.sz) := hl
  obtain ⟨x, xs', rfl⟩ : ∃ x xs', xs = x :: xs' := by
    match xs, hx with
    | x :: xs', _ => exact ⟨x, xs', rfl⟩
  have h0 := hf 0 f rfl
  obtain ⟨a, hK, hw⟩ := h.out enc w fuel _ x h0
  obtain ⟨b, hK', hw'⟩ := hr.out enc w fuel cs xs' (by omega) (by simpa using hx) (fun i g hg => hf (i + 1) g hg)
  rw [ho, hc] at hK
  refine ⟨(a, b), ⟨_, _, ?_, hK, hK'⟩, hw, hw'⟩
  rw [← List.drop_drop, List.take_append_drop]
theorem Opens.struct {fs : Array Field} {d : Kd α} {wf : α → Prop} (hu : P.underlying t = some (.struct fs)) (hC : P.cellsOf t = d.sz) (h : OpensF P fs.toList 0 d wf) : Opens P t d wf := by
  refine ⟨?_⟩
  intro H enc w fuel cs x hx
  obtain ⟨xs, n, _, _, h1, h2, h3⟩ := DataW.trod_struct hu hx
  obtain ⟨a, hK, hw⟩ := h.out enc w n cs xs (by omega) (by simpa using h2) (fun i f hf => h3 i f (by simpa using hf))
  exact ⟨a, by simpa using hK, hw⟩
end
end Go.Proofs.Sl
