/- What the claim needs of Sd: lemmas and contracts, cut by a program to what is used. -/
import Derived.Test.YtapbkoolddnjgaaProg
import Derived.Shelf.SlicesE.DeleteFunc
import Derived.RowKit3
namespace Go.Proofs
open Go.Shelf Go.RowKit Go.Lib Go.Sort
def Try.deleteInt_ren : Go.Shelf.Ren := ⟨fun | 10 => 80 | 6 => 68 | n => n, fun | 22 => 25 | 23 => 3 | 25 => 71 | 3 => 3 | 4 => 4 | 0 => 0 | n => n, fun | n => n⟩
theorem Try.deleteInt : Go.Proofs.SlLaysH.n10 Try.prog Try.deleteInt_ren := {
  mixed := by kernel_rfl,
  f6 := ⟨Try.f68.name, by decide, Try.func68.trans (congrArg some (by kernel_rfl))⟩,
  f10 := ⟨Try.f80.name, by decide, Try.func80.trans (congrArg some (by kernel_rfl))⟩,
  t0 := Try.underlying0,
  a0 := Try.isAgg0,
  z0 := Try.sizeOf0,
  v0 := Try.zeroValue0,
  t3 := Try.underlying3,
  a3 := Try.isAgg3,
  z3 := Try.sizeOf3,
  v3 := Try.zeroValue3,
  t4 := Try.underlying4,
  a4 := Try.isAgg4,
  z4 := Try.sizeOf4,
  v4 := Try.zeroValue4,
  t22 := Try.underlying25,
  a22 := Try.isAgg25,
  z22 := Try.sizeOf25,
  v22 := Try.zeroValue25,
  a23 := Try.isAgg3,
  z23 := Try.sizeOf3,
  t25 := Try.underlying71,
  a25 := Try.isAgg71,
  z25 := Try.sizeOf71,
  v25 := Try.zeroValue71 }
def opp (lit x : Int) : Bool := decide (x = wrap64 (-lit))
theorem Try.gives82 (lit x : Int) (g : Nat) (W : World) (hc : W.cell? ⟨g, 0, none⟩ = some (.int .i64 lit)) :
    FnGives Try.prog 82 #[.pointer (some ⟨g, 0, none⟩)] #[.int .i64 x] (.bool (opp lit x)) W := by
  show Calls Try.prog 82 #[.int .i64 x, .pointer (some ⟨g, 0, none⟩)] W _
  go_enter Try.func82, Try.ntmps82
  go_wp2
  go_ret
  exact ⟨by unfold opp; first | rfl | (congr 1; done) | simp, 0, rfl⟩
theorem Try.delete80 (lit : Int) (g blk cap : Nat) (d : Array Int) (w : World) (hg : g < w.heap.size) (hne : g ≠ blk) (hcell : w.cell? ⟨g, 0, none⟩ = some (.int .i64 lit)) (hH : Holds (Value.int .i64) w blk 0 d) (hsz : d.size ≤ 9223372036854775807) (hcap : d.size ≤ cap) :
    Calls Try.prog 80 #[.slice (some ⟨blk, 0, none⟩) d.size cap, .func (.func 82) #[] #[.pointer (some ⟨g, 0, none⟩)]] w fun e w' => e = .returned (.slice (some ⟨blk, 0, none⟩) (d.toList.filter fun x => !opp lit x).length cap) ∧
      ∃ q, w' = putRow (Value.int .i64) (Sort.ahead w q) blk 0 ((d.toList.filter fun x => !opp lit x) ++ List.replicate (d.size - (d.toList.filter fun x => !opp lit x).length) 0).toArray := by
  have eg : ∀ args w, (callFunc 82 args).run Try.prog w = .ok (.enter 82 args) w := enters_of Try.func82 (by kernel_rfl) rfl
  have hp : PredAt Try.prog 82 #[.pointer (some ⟨g, 0, none⟩)] (Value.int .i64) (opp lit) w := fun W x hb => Try.gives82 lit x g W ((hb.cell (p := ⟨g, 0, none⟩) hg).trans hcell)
  have hpo : PredOver Try.prog 82 #[.pointer (some ⟨g, 0, none⟩)] (Value.int .i64) (opp lit) blk 0 d.size w := fun n os dk x _ => Try.gives82 lit x g _ (by
    unfold sortWorld
    rw [cell?_grow _ _ _ (by show g < (putRow _ _ _ _ _).heap.size; rw [size_putRow]; exact hg), cell?_putRow_other _ _ blk 0 _ _ (Or.inl hne)]
    exact hcell)
  have hcon := AnyE.slices_DeleteFunc Try.deleteInt (Value.int .i64) (fun _ => rfl) (opp lit) 82 #[.pointer (some ⟨g, 0, none⟩)] eg 0 (fun w => by kernel_rfl) blk 0 cap d w hp hpo hH hsz hcap
  exact hcon
end Go.Proofs
