/- The seat Ytapbkoolddnjgaa: slices.SortFunc (at most 12 numbers) by the shelf's contract, laid at this program; the closure of resolvent. -/
import Derived.Test.YtapbkoolddnjgaaProg
import Derived.Shelf.SlSortCmp.Small
import Derived.Shelf.Small.Bits
import Derived.Shelf.Lay
import Derived.Ground.SlsfProg
import Derived.Ground.NamesProg
import Derived.RowKit3
namespace Go.Proofs
open Go.Shelf Go.RowKit Go.Lib Go.Sort
shelf_lay_g SlLaysF.n6 Slsf 6 at Try 94 as Try.sortInt
shelf_lay Lays.n125 Nm 125 at Try as Try.bitsLen
theorem Try.hlen (n : Nat) (W : World) (h : n ≤ 12) : Calls Try.prog 99 #[.int .u64 n] W fun e w' => (∃ l : Int, e = .returned (.int .i64 l)) ∧ w' = W :=
  (Any.bits_Len Try.bitsLen n W (by omega) (by omega)).mono fun _ _ ⟨he, hw⟩ => ⟨⟨_, he⟩, hw⟩
/-- variable, its world too. -/
theorem Try.variable47 (a : Int) (W : World) : Calls Try.prog 47 #[.int .i64 a] W fun e w' => e = .returned (.int .i64 (max a (wrap64 (-a)))) ∧ ∃ q, w' = W.drewN q := by
  go_enter Try.func47, Try.ntmps47
  go_wp2
  go_ret
  exact ⟨rfl, 0, rfl⟩
/-- How resolvent orders. -/
def byVar (x y : Int) : Int := wrap64 (max x (wrap64 (-x)) - max y (wrap64 (-y)))
theorem Try.closure95 (x y : Int) (W : World) : Calls Try.prog 95 #[.int .i64 x, .int .i64 y] W fun e w' => e = .returned (.int .i64 (byVar x y)) ∧ ∃ q, w' = W.drewN q := by
  have h1 := Try.variable47 x
  have h2 := Try.variable47 y
  unfold byVar
  generalize max x (wrap64 (-x)) = a at h1 ⊢
  generalize max y (wrap64 (-y)) = b at h2 ⊢
  go_enter Try.func95, Try.ntmps95
  go_wp2_with fail
  refine (h1 _).mono ?_
  rintro e w' ⟨rfl, q1, rfl⟩
  go_wp2_with fail
  refine (h2 _).mono ?_
  rintro e w' ⟨rfl, q2, rfl⟩
  go_wp2
  go_ret
  exact ⟨rfl, q1 + q2, by simp [World.drewN]⟩
theorem Try.sort94 (blk off cap : Nat) (d : Array Int) (w : World) (hH : Holds (Value.int .i64) w blk off d) (h12 : d.size ≤ 12) :
    Calls Try.prog 94 #[.slice (some ⟨blk, off, none⟩) d.size cap, .func (.func 95) #[] #[]] w fun e w' => e = .returned (.tuple #[]) ∧ ∃ n, w' = (putRow (Value.int .i64) w blk off (Sort.insertionSort (ltOf byVar) d 0 d.size)).drewN n := by
  have eg : ∀ args w, (callFunc 95 args).run Try.prog w = .ok (.enter 95 args) w := enters_of Try.func95 (by kernel_rfl) rfl
  have hcon := Any.slices_SortFunc_small Try.sortInt (Value.int .i64) (fun _ => rfl) byVar 95 #[] blk off cap d w eg (fun _ _ _ _ x y => Try.closure95 x y _) hH h12 Try.hlen
  exact hcon
/-- No element: whatever the slice's address. -/
theorem Try.insertion100_nil (A : Option Addr) (c : Nat) (f : Value) (W : World) : Calls Try.prog 100 #[.slice A 0 c, .int .i64 0, .int .i64 0, f] W fun e w' => e = .returned (.tuple #[]) ∧ w' = W := by
  go_enter Try.func100, Try.ntmps100
  go_wp2
  refine wp_loop_rounds 1 ?_
  rw [rounds_succ]
  go_wp2
  first | go_end0 | ((try simp only [Exit.inBlock, Exit.then]); refine bodyPost_ret (results_none rfl _ _ _) rfl ?_)
  exact ⟨rfl, rfl⟩
theorem Try.pdq98_nil (A : Option Addr) (c : Nat) (f : Value) (l : Int) (W : World) : Calls Try.prog 98 #[.slice A 0 c, .int .i64 0, .int .i64 0, .int .i64 l, f] W fun e w' => e = .returned (.tuple #[]) ∧ w' = W := by
  go_enter Try.func98, Try.ntmps98
  go_wp2
  refine wp_loop_rounds 1 ?_
  rw [rounds_succ]
  go_wp2_with fail
  refine (Try.insertion100_nil A c f _).mono ?_
  rintro e w' ⟨rfl, rfl⟩
  go_wp2
  (try simp only [Exit.inBlock, Exit.then]); refine bodyPost_ret (results_none rfl _ _ _) rfl ?_
  exact ⟨rfl, rfl⟩
theorem Try.sort94_nil (A : Option Addr) (c : Nat) (f : Value) (W : World) : Calls Try.prog 94 #[.slice A 0 c, f] W fun e w' => e = .returned (.tuple #[]) ∧ w' = W := by
  go_enter Try.func94, Try.ntmps94
  go_wp2_with fail
  refine (Try.hlen 0 _ (by omega)).mono ?_
  rintro e w' ⟨⟨l, rfl⟩, rfl⟩
  go_wp2_with fail
  refine (Try.pdq98_nil A c f l _).mono ?_
  rintro e w' ⟨rfl, rfl⟩
  first | go_end0 | (go_wp2; first | go_end0 | refine bodyPost_ret (results_none rfl _ _ _) rfl ?_) | refine bodyPost_ret (results_none rfl _ _ _) rfl ?_
  exact ⟨rfl, rfl⟩
theorem size_insInner {α : Type} [Inhabited α] (lt : α → α → Bool) (a : Nat) : ∀ (j : Nat) (d : Array α), (Sort.insInner lt a j d).size = d.size
  | 0, d => rfl
  | j + 1, d => by
    unfold Sort.insInner
    split
    · rw [size_insInner lt a j]; simp [Sort.swp]
    · rfl
/-- insOuter, by fuel: reckoned by the kernel. -/
def insRun {α : Type} [Inhabited α] (lt : α → α → Bool) (a : Nat) : Nat → Nat → Array α → Array α
  | 0, _, d => d
  | k + 1, i, d => insRun lt a k (i + 1) (Sort.insInner lt a i d)
theorem insOuter_run {α : Type} [Inhabited α] (lt : α → α → Bool) (a b : Nat) : ∀ (k i : Nat) (d : Array α), i + k = b → Sort.insOuter lt a b i d = insRun lt a k i d
  | 0, i, d, h => by unfold Sort.insOuter insRun; rw [if_neg (by omega)]
  | k + 1, i, d, h => by
    unfold Sort.insOuter insRun
    rw [if_pos (by omega)]
    exact insOuter_run lt a b k (i + 1) _ (by omega)
theorem size_insRun {α : Type} [Inhabited α] (lt : α → α → Bool) (a : Nat) : ∀ (k i : Nat) (d : Array α), (insRun lt a k i d).size = d.size
  | 0, _, _ => rfl
  | k + 1, i, d => by unfold insRun; rw [size_insRun lt a k, size_insInner]
/-- slices.SortFunc by byVar, on lists. -/
def sortedByVar (l : List Int) : List Int := (insRun (ltOf byVar) 0 (l.length - 1) 1 l.toArray).toList
theorem sortedByVar_len (l : List Int) : (sortedByVar l).length = l.length := by
  unfold sortedByVar
  rw [Array.length_toList, size_insRun]
  simp
theorem sortedByVar_ins (l : List Int) (h : 0 < l.length) : Sort.insertionSort (ltOf byVar) l.toArray 0 l.toArray.size = (sortedByVar l).toArray := by
  unfold Sort.insertionSort sortedByVar
  rw [insOuter_run (ltOf byVar) 0 l.toArray.size (l.length - 1) 1 l.toArray (by simp; omega)]
end Go.Proofs
