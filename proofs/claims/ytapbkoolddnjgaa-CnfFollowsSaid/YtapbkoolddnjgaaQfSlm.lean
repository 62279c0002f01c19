/- What the claim needs of Slm: lemmas and contracts, cut by a program to what is used. -/
import Derived.Test.YtapbkoolddnjgaaQfSl
import Derived.ChangeMaps4
set_option linter.unusedVariables false
set_option linter.unusedSimpArgs false
namespace Go.Proofs.Sl
open Go.RowKit Go.Proofs.YtapbkoolddnjgaaW.PrintWords
section
variable {β : Type}
def alook : List (Int × β) → Int → Option β
  | [], _ => none
  | (k, v) :: f, n => if k = n then some v else alook f n
def aput : List (Int × β) → Int → β → List (Int × β)
  | [], n, x => [(n, x)]
  | (k, v) :: f, n, x => if k = n then (k, x) :: f else (k, v) :: aput f n x
theorem alook_aput (f : List (Int × β)) (n m : Int) (x : β) : alook (aput f n x) m = if n = m then some x else alook f m := by
  induction f with
  | nil => simp [aput, alook]
  | cons p f ih =>
    obtain ⟨k, v⟩ := p
    unfold aput
    by_cases h : k = n
    · subst h
      by_cases h2 : k = m <;> simp [alook, h2]
    · rw [if_neg h]
      by_cases h2 : k = m
      · subst h2
        have : ¬ n = k := fun e => h e.symm
        simp [alook, this]
      · simp only [alook, if_neg h2, ih]
end
def KeysInt (es : Array MapEntry) (f : List (Int × Value)) : Prop := es.toList.map (fun e => (e.key, e.val)) = f.map (fun x => (Value.int .i64 x.1, x.2))
theorem findNow_int {q : IntKind} : ∀ (l : List MapEntry) (f : List (Int × Value)) (i : Nat) (n : Int), l.map (fun e => (e.key, e.val)) = f.map (fun x => (Value.int .i64 x.1, x.2)) →
    Instr.findNow (.int q) (.int .i64 n) l i = some (match (f.findIdx? (fun x => x.1 == n)) with | some j => (f[j]?).map (fun x => (i + j, x.2)) | none => none)
  | [], [], i, n, _ => by simp [Instr.findNow]
  | [], _ :: _, _, _, h => by simp at h
  | _ :: _, [], _, _, h => by simp at h
  | e :: l, x :: f, i, n, h => by
    simp only [List.map_cons, List.cons.injEq, Prod.mk.injEq] at h
    obtain ⟨⟨h1, h2⟩, h3⟩ := h
    unfold Instr.findNow
    rw [h1]
    simp only [Instr.sameNow, if_true]
    by_cases hn : n = x.1
    · subst hn
      simp [List.findIdx?_cons, h2]
    · have hb : (n == x.1) = false := by simpa using hn
      have hb2 : (x.1 == n) = false := by simpa using fun e : x.1 = n => hn e.symm
      rw [hb]
      simp only
      rw [findNow_int l f (i + 1) n h3, List.findIdx?_cons, hb2]
      cases hf : f.findIdx? (fun x => x.1 == n) with
      | none => simp
      | some j => simp [Nat.add_comm, Nat.add_left_comm]
theorem alook_find (f : List (Int × Value)) (n : Int) : alook f n = match (f.findIdx? (fun x => x.1 == n)) with | some j => (f[j]?).map (·.2) | none => none := by
  induction f with
  | nil => simp [alook]
  | cons x f ih =>
    obtain ⟨k, v⟩ := x
    by_cases h : k = n
    · simp [alook, h, List.findIdx?_cons]
    · have hb : (k == n) = false := by simpa using h
      simp only [alook, if_neg h, ih, List.findIdx?_cons, hb]
      cases hf : f.findIdx? (fun x => x.1 == n) with
      | none => simp
      | some j => simp
section
variable {P : Program} {w : World} {t k e : TypeId} {q : IntKind} {b : Nat} {es : Array MapEntry} {clock : Nat} {f : List (Int × Value)}
theorem run_lookup_int (ht : P.underlying t = some (.map k e)) (hk : P.underlying k = some (.int .i64)) (hb : w.heap[b]? = some (.map es clock)) (hE : KeysInt es f) {z : Value} (hz : (zeroValue e).run P w = .ok z w) (n : Int) :
    (Instr.lookup t (.map (some b)) (.int .i64 n) false).run P w = .ok ((alook f n).getD z) w := by
  have hf := findNow_int (q := .i64) es.toList f 0 n hE
  have hkey : MapKept.IsKey (.int .i64) (.int .i64 n) := rfl
  rw [alook_find]
  cases hq : f.findIdx? (fun x => x.1 == n) with
  | none =>
    rw [hq] at hf
    simp [Instr.lookup, run_underlying ht, MapKept.run_getObj_map hb, MapKept.run_checkKey hk hkey, MapKept.run_findKey hk hf, hz, Result.andThen]
  | some j =>
    rw [hq] at hf
    cases hj : f[j]? with
    | none => dsimp only at hf ⊢; rw [hj] at hf; simp only [Option.map_none] at hf; simp [Instr.lookup, run_underlying ht, MapKept.run_getObj_map hb, MapKept.run_checkKey hk hkey, MapKept.run_findKey hk hf, hj, hz, Result.andThen]
    | some x => dsimp only at hf ⊢; rw [hj] at hf; simp only [Option.map_some] at hf; simp [Instr.lookup, run_underlying ht, MapKept.run_getObj_map hb, MapKept.run_checkKey hk hkey, MapKept.run_findKey hk hf, hj, hz, Result.andThen]
theorem aput_none (f : List (Int × Value)) (n : Int) (x : Value) (h : f.findIdx? (fun x => x.1 == n) = none) : aput f n x = f ++ [(n, x)] := by
  induction f with
  | nil => rfl
  | cons p f ih =>
    obtain ⟨k, v⟩ := p
    rw [List.findIdx?_cons] at h
    by_cases hk : k = n
    · subst hk; simp at h
    · have hb : (k == n) = false := by simpa using hk
      simp only [hb, Bool.false_eq_true, if_false] at h
      unfold aput
      rw [if_neg hk, ih (by simpa using h)]
      rfl
theorem aput_some (f : List (Int × Value)) (n : Int) (x : Value) (j : Nat) (h : f.findIdx? (fun x => x.1 == n) = some j) : aput f n x = f.set j (n, x) := by
  induction f generalizing j with
  | nil => simp at h
  | cons p f ih =>
    obtain ⟨k, v⟩ := p
    rw [List.findIdx?_cons] at h
    unfold aput
    by_cases hk : k = n
    · subst hk
      simp at h
      subst h
      simp
    · have hb : (k == n) = false := by simpa using hk
      simp only [hb, Bool.false_eq_true, if_false, Option.map_eq_some_iff] at h
      obtain ⟨i, hi, rfl⟩ := h
      rw [if_neg hk, ih i hi]
      rfl
theorem run_mapUpdate_int (ht : P.underlying t = some (.map k e)) (hk : P.underlying k = some (.int .i64)) (hb : w.heap[b]? = some (.map es clock)) (hE : KeysInt es f) (n : Int) (v : Value) :
    ∃ es' clock', (Instr.mapUpdate t (.map (some b)) (.int .i64 n) v).run P w = .ok () { w with heap := w.heap.setIfInBounds b (.map es' clock') } ∧ KeysInt es' (aput f n v) := by
  have hf := findNow_int (q := .i64) es.toList f 0 n hE
  have hkey : MapKept.IsKey (.int .i64) (.int .i64 n) := rfl
  have hlen : es.toList.length = f.length := by have := congrArg List.length hE; simpa using this
  cases hq : f.findIdx? (fun x => x.1 == n) with
  | none =>
    rw [hq] at hf
    refine ⟨es.push ⟨.int .i64 n, v, clock⟩, clock + 1, ?_, ?_⟩
    · simp [Instr.mapUpdate, run_underlying ht, MapKept.run_getObj_map hb, MapKept.run_checkKey hk hkey, MapKept.run_findKey hk hf, MapKept.run_setObj_map _ hb, Result.andThen]
    · unfold KeysInt at hE ⊢
      rw [aput_none f n v hq, Array.toList_push, List.map_append, hE, List.map_append]
      rfl
  | some j =>
    rw [hq] at hf
    dsimp only at hf
    have hjl : j < f.length := by
      have := List.findIdx?_eq_some_iff_getElem.1 hq
      exact this.1
    have hkj : (f[j]).1 = n := by
      have := (List.findIdx?_eq_some_iff_getElem.1 hq).2.1
      simpa using this
    rw [List.getElem?_eq_getElem hjl] at hf
    have hjl2 : j < es.toList.length := by omega
    have hej : es[j]? = some es.toList[j] := by simp at hjl2; simp [hjl2]
    have hke : es.toList[j].key = .int .i64 n := by
      have := congrArg (fun l => l[j]?) hE
      simp only [List.getElem?_map, List.getElem?_eq_getElem hjl2, List.getElem?_eq_getElem hjl, Option.map_some, Option.some.injEq, Prod.mk.injEq] at this
      rw [this.1, hkj]
    have hfj : ((f[j]?).map (fun x => (0 + j, x.2))) = some (j, (f[j]).2) := by rw [List.getElem?_eq_getElem hjl]; simp
    refine ⟨es.modify j fun e => { e with key := .int .i64 n, val := v }, clock, ?_, ?_⟩
    · have hf' : Instr.findNow (.int .i64) (.int .i64 n) es.toList 0 = some (some (j, (f[j]).2)) := by rw [hf]; simp
      have hke2 : (es[j]'(by simpa using hjl2)).key = .int .i64 n := by simpa using hke
      simp [Instr.mapUpdate, run_underlying ht, MapKept.run_getObj_map hb, MapKept.run_checkKey hk hkey, MapKept.run_findKey hk hf', hej, hke2, MapKept.run_keyThatStays hkey, MapKept.run_setObj_map _ hb, Result.andThen]
    · unfold KeysInt at hE ⊢
      rw [aput_some f n v j hq]
      apply List.ext_getElem?
      intro i
      have hi := congrArg (fun l => l[i]?) hE
      simp only [List.getElem?_map] at hi ⊢
      rw [Array.getElem?_toList, Array.getElem?_modify, List.getElem?_set]
      by_cases hij : j = i
      · subst hij
        rw [if_pos rfl, hej, if_pos rfl, if_pos hjl]
        simp
      · rw [if_neg hij, if_neg hij, ← hi, Array.getElem?_toList]
end
def mapP (b : Nat) (f : List (Int × Value)) : Asn where
  H F w := (∀ x, F x ↔ x = b) ∧ ∃ es clock, w.heap[b]? = some (.map es clock) ∧ KeysInt es f
  move hm h := ⟨h.1, by obtain ⟨es, c, hb, hE⟩ := h.2; exact ⟨es, c, (hm b ((h.1 b).2 rfl)).trans hb, hE⟩⟩
  lt h hb := by obtain ⟨h1, es, c, h2, _⟩ := h; have := (h1 _).1 hb; subst this; exact blk_lt h2
def exA {ι : Type} (A : ι → Asn) : Asn where
  H F w := ∃ i, (A i).H F w
  move hm h := by obtain ⟨i, hi⟩ := h; exact ⟨i, (A i).move hm hi⟩
  lt h hb := by obtain ⟨i, hi⟩ := h; exact (A i).lt hi hb
def sepA (L : List Asn) : Asn where
  H F w := Sep L F w
  move hm h := h.move hm
  lt h hb := h.lt _ hb
def pureA (p : Prop) : Asn where
  H F w := (∀ b, ¬ F b) ∧ p
  move _ h := h
  lt h hb := absurd hb (h.1 _)
section
variable {w0 w w' : World} {L M : List Asn}
theorem Sep.append : ∀ {L M : List Asn} {F : Nat → Prop}, Sep (L ++ M) F w ↔ ∃ F1 F2 : Nat → Prop, (∀ b, F b ↔ F1 b ∨ F2 b) ∧ (∀ b, F1 b → ¬ F2 b) ∧ Sep L F1 w ∧ Sep M F2 w
  | [], M, F => by
    constructor
    · intro h
      exact ⟨fun _ => False, F, fun b => by simp, fun b h => h.elim, fun b h => h, h⟩
    · rintro ⟨F1, F2, he, _, h1, h2⟩
      exact h2.congr (fun b => by rw [he b]; simp [h1 b])
  | A :: L, M, F => by
    constructor
    · rintro ⟨F1, F2, he, hd, hA, hL⟩
      obtain ⟨G1, G2, ge, gd, hG1, hG2⟩ := Sep.append.1 hL
      refine ⟨fun b => F1 b ∨ G1 b, G2, fun b => by rw [he b, ge b, or_assoc], fun b h1 h2 => ?_, ⟨F1, G1, fun _ => Iff.rfl, fun b h1 h2 => hd b h1 ((ge b).2 (.inl h2)), hA, hG1⟩, hG2⟩
      rcases h1 with h1 | h1
      · exact hd b h1 ((ge b).2 (.inr h2))
      · exact gd b h1 h2
    · rintro ⟨F1, F2, he, hd, ⟨G1, G2, ge, gd, hA, hL⟩, hM⟩
      refine ⟨G1, fun b => G2 b ∨ F2 b, fun b => by rw [he b, ge b, or_assoc], fun b h1 h2 => ?_, hA, Sep.append.2 ⟨G2, F2, fun _ => Iff.rfl, fun b h1 h2 => hd b ((ge b).2 (.inr h1)) h2, hL, hM⟩⟩
      rcases h2 with h2 | h2
      · exact gd b h1 h2
      · exact hd b ((ge b).2 (.inl h1)) h2
theorem St.open_sep (h : St w0 w (sepA L :: M)) : St w0 w (L ++ M) := by
  obtain ⟨F, ⟨F1, F2, he, hd, hA, hL⟩, hF⟩ := h.sep
  exact ⟨h.below, F, Sep.append.2 ⟨F1, F2, he, hd, hA, hL⟩, hF⟩
theorem St.shut_sep (h : St w0 w (L ++ M)) : St w0 w (sepA L :: M) := by
  obtain ⟨F, hs, hF⟩ := h.sep
  obtain ⟨F1, F2, he, hd, hA, hL⟩ := Sep.append.1 hs
  exact ⟨h.below, F, ⟨F1, F2, he, hd, hA, hL⟩, hF⟩
theorem St.open_ex {ι : Type} {A : ι → Asn} (h : St w0 w (exA A :: M)) : ∃ i, St w0 w (A i :: M) := by
  obtain ⟨F, ⟨F1, F2, he, hd, ⟨i, hi⟩, hL⟩, hF⟩ := h.sep
  exact ⟨i, h.below, F, ⟨F1, F2, he, hd, hi, hL⟩, hF⟩
theorem St.shut_ex {ι : Type} {A : ι → Asn} (i : ι) (h : St w0 w (A i :: M)) : St w0 w (exA A :: M) := by
  obtain ⟨F, ⟨F1, F2, he, hd, hi, hL⟩, hF⟩ := h.sep
  exact ⟨h.below, F, ⟨F1, F2, he, hd, ⟨i, hi⟩, hL⟩, hF⟩
theorem St.open_pure {p : Prop} (h : St w0 w (pureA p :: M)) : p ∧ St w0 w M := by
  obtain ⟨F, ⟨F1, F2, he, hd, hi, hL⟩, hF⟩ := h.sep
  exact ⟨hi.2, h.below, F2, hL, fun b hb => hF b ((he b).2 (.inr hb))⟩
theorem St.shut_pure {p : Prop} (hp : p) (h : St w0 w M) : St w0 w (pureA p :: M) := by
  obtain ⟨F, hs, hF⟩ := h.sep
  exact ⟨h.below, F, ⟨fun _ => False, F, fun b => by simp, fun b h => h.elim, ⟨fun b h => h, hp⟩, hs⟩, hF⟩
theorem St.map_new (h : St w0 w L) : St w0 (w.alloc (.map #[] 0)) (mapP w.heap.size [] :: L) :=
  h.new (below_alloc (Below.refl _ _) _) _ (fun b => b = w.heap.size) ⟨fun _ => Iff.rfl, #[], 0, by simpa using heap_alloc_new w _, rfl⟩ (fun b hb => Nat.le_of_eq hb.symm)
theorem St.map_at (h : St w0 w L) {i b : Nat} {f : List (Int × Value)} (hi : L[i]? = some (mapP b f)) : ∃ es clock, w.heap[b]? = some (.map es clock) ∧ KeysInt es f := by
  obtain ⟨F, hF, hl⟩ := h.holds hi
  exact hF.2
theorem St.map_put {P : Program} {t k e : TypeId} (ht : P.underlying t = some (.map k e)) (hk : P.underlying k = some (.int .i64)) (h : St w0 w L) {i b : Nat} {f : List (Int × Value)} (hi : L[i]? = some (mapP b f)) (n : Int) (v : Value) :
    ∃ w', (Instr.mapUpdate t (.map (some b)) (.int .i64 n) v).run P w = .ok () w' ∧ St w0 w' (L.set i (mapP b (aput f n v))) := by
  obtain ⟨es, clock, hb, hE⟩ := h.map_at hi
  obtain ⟨es', clock', hrun, hE'⟩ := run_mapUpdate_int ht hk hb hE n v
  refine ⟨_, hrun, ?_⟩
  have hlt := blk_lt hb
  refine h.upd hi _ rfl rfl rfl (by simp) (fun F1 hF _ => ⟨F1, ⟨hF.1, es', clock', by simp [hlt], hE'⟩, fun b hb => .inl hb, fun x hx hn => ?_⟩)
  have : ¬ b = x := fun e => hn ((hF.1 x).2 e.symm)
  simp [Array.getElem?_setIfInBounds_ne this]
theorem St.row_kept {α : Type} {B : Nat} {d : Kd α} {e : TypeId} {v : Value} {xs : List α} (h : St w0 w L) {i : Nat} (hi : L[i]? = some (row B d e v xs)) :
    ∃ F1 : Nat → Prop, d.R e w B F1 v xs ∧ ∀ w' v' (ys : List α), d.R e w' B (fun k => F1 k ∨ w.heap.size ≤ k) v' ys → Below w0.heap.size w0 w' → Kept w w' F1 → St w0 w' (L.set i (row B d e v' ys)) := by
  obtain ⟨F1, hA, _, hput⟩ := h.focus hi
  refine ⟨F1, hA.1, fun w' v' ys h1 hb hk => ?_⟩
  exact hput w' _ (fun k => (F1 k ∨ w.heap.size ≤ k) ∧ k < w'.heap.size) (hb.os.trans h.below.os.symm) (hb.tape.trans h.below.tape.symm) (hb.output.trans h.below.output.symm) hk.1
    ⟨Kd.R_mono (Kd.R_bound h1) (fun k hk => ⟨hk.1, hk.2.2.1⟩), fun b hb => hb.2⟩ (fun b hb => hb.1) (fun b hb hn => hk.2 b hb hn)
end
end Go.Proofs.Sl
