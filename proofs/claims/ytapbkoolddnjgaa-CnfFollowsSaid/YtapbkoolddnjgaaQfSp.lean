/- What the claim needs of Sp: lemmas and contracts, cut by a program to what is used. -/
import Derived.Test.YtapbkoolddnjgaaQfSlm
import Derived.Test.YtapbkoolddnjgaaQfSo
import Derived.Sort.OwnSortedInts
namespace Go.Proofs.Sl
open Go.RowKit Go.Proofs.YtapbkoolddnjgaaW.PrintWords
theorem St.row_sorted {w0 w : World} {L : List Asn} {g c : Nat} {e : TypeId} {xs ts : List Int} (h : St w0 w L) {i : Nat} (hi : L[i]? = some (row w0.heap.size (Kd.int .i64) e (.slice (some ⟨g, 0, none⟩) xs.length c) xs)) (hl : ts.length = xs.length) (n : Nat) :
    St w0 ((Go.Sort.putRow (Value.int .i64) w g 0 ts.toArray).drewN n) (L.set i (row w0.heap.size (Kd.int .i64) e (.slice (some ⟨g, 0, none⟩) xs.length c) ts)) := by
  have hw : (Go.Sort.putRow (Value.int .i64) w g 0 ts.toArray).drewN n = Go.Sort.grow (Go.Sort.putRow (Value.int .i64) (Go.Sort.ahead w n) g 0 ts.toArray) #[] := by
    rw [Go.Sort.grow_empty]; rfl
  rw [hw]
  have hg := grownBy_sortedI (w := w) (g := g) (n := n) (os := #[]) ts.toArray
  refine h.upd hi _ hg.os hg.tape hg.output hg.size (fun F1 hF hlow => ⟨F1, ⟨?_, fun b hb => Nat.lt_of_lt_of_le (hF.2 b hb) hg.size⟩, fun b hb => .inl hb, fun b hb hn => hg.block b hb (fun e => ?_)⟩)
  · have ho := Kd.own_of_R hF.1
    obtain ⟨hlen, h2⟩ := ho
    rcases h2 with ⟨he, _⟩ | ⟨g', cap, cur, he, hb, hh, hnc, hcm, hcs, ht⟩
    · cases he
    · cases he
      have := ownsRow_sortedI (w := w) (base := w0.heap.size) (g := g) (cap := c) (n := n) (e := e) (os := #[]) (cur := cur) (ss := xs) (ts := ts) hl hb hh hnc hcm hcs
      refine Kd.R_of_own (by rw [hl]; exact this) hF.1.1
  · injection e with e
    subst e
    exact hn (hF.1.1 _ rfl)
end Go.Proofs.Sl
