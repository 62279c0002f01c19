/- What the claim needs of So: lemmas and contracts, cut by a program to what is used. -/
import Derived.Test.YtapbkoolddnjgaaProg
import Derived.Shelf.SlSortCmp.Small
import Derived.Shelf.Small.Bits
import Derived.RowKit3
namespace Go.Proofs
open Go.Shelf Go.RowKit Go.Lib Go.Sort
def Try.sortInt_ren : Go.Shelf.Ren := ⟨fun | 6 => 94 | 15 => 99 | 14 => 98 | 28 => 108 | 29 => 109 | 20 => 100 | 21 => 101 | 22 => 102 | 23 => 103 | 24 => 104 | 25 => 105 | 26 => 106 | 27 => 107 | 46 => 110 | 47 => 111 | 48 => 112 | 49 => 113 | 50 => 114 | 57 => 115 | n => n, fun | 22 => 25 | 24 => 3 | 25 => 122 | 3 => 3 | 39 => 125 | 0 => 0 | 53 => 135 | 55 => 137 | 4 => 4 | 46 => 128 | 45 => 127 | 50 => 132 | 5 => 5 | 9 => 9 | 66 => 138 | 70 => 142 | 76 => 144 | 77 => 35 | n => n, fun | n => n⟩
theorem Try.sortInt : Go.Proofs.SlLaysF.n6 Try.prog Try.sortInt_ren := {
  mixed := by kernel_rfl,
  f6 := ⟨Try.f94.name, by decide, Try.func94.trans (congrArg some (by kernel_rfl))⟩,
  f14 := ⟨Try.f98.name, by decide, Try.func98.trans (congrArg some (by kernel_rfl))⟩,
  f15 := Try.func99.trans (congrArg some (by kernel_rfl)),
  f20 := ⟨Try.f100.name, by decide, Try.func100.trans (congrArg some (by kernel_rfl))⟩,
  f21 := ⟨Try.f101.name, by decide, Try.func101.trans (congrArg some (by kernel_rfl))⟩,
  f22 := ⟨Try.f102.name, by decide, Try.func102.trans (congrArg some (by kernel_rfl))⟩,
  f23 := ⟨Try.f103.name, by decide, Try.func103.trans (congrArg some (by kernel_rfl))⟩,
  f24 := ⟨Try.f104.name, by decide, Try.func104.trans (congrArg some (by kernel_rfl))⟩,
  f25 := ⟨Try.f105.name, by decide, Try.func105.trans (congrArg some (by kernel_rfl))⟩,
  f26 := ⟨Try.f106.name, by decide, Try.func106.trans (congrArg some (by kernel_rfl))⟩,
  f27 := ⟨Try.f107.name, by decide, Try.func107.trans (congrArg some (by kernel_rfl))⟩,
  f28 := Try.func108.trans (congrArg some (by kernel_rfl)),
  f29 := Try.func109.trans (congrArg some (by kernel_rfl)),
  f46 := ⟨Try.f110.name, by decide, Try.func110.trans (congrArg some (by kernel_rfl))⟩,
  f47 := Try.func111.trans (congrArg some (by kernel_rfl)),
  f48 := Try.func112.trans (congrArg some (by kernel_rfl)),
  f49 := ⟨Try.f113.name, by decide, Try.func113.trans (congrArg some (by kernel_rfl))⟩,
  f50 := ⟨Try.f114.name, by decide, Try.func114.trans (congrArg some (by kernel_rfl))⟩,
  f57 := ⟨Try.f115.name, by decide, Try.func115.trans (congrArg some (by kernel_rfl))⟩,
  t0 := Try.underlying0,
  a0 := Try.isAgg0,
  z0 := Try.sizeOf0,
  v0 := Try.zeroValue0,
  t3 := Try.underlying3,
  a3 := Try.isAgg3,
  z3 := Try.sizeOf3,
  v3 := Try.zeroValue3,
  t4 := Try.underlying4,
  a4 := Try.isAgg4,
  z4 := Try.sizeOf4,
  v4 := Try.zeroValue4,
  t5 := Try.underlying5,
  a5 := Try.isAgg5,
  z5 := Try.sizeOf5,
  v5 := Try.zeroValue5,
  t9 := Try.underlying9,
  a9 := Try.isAgg9,
  z9 := Try.sizeOf9,
  v9 := Try.zeroValue9,
  t22 := Try.underlying25,
  a22 := Try.isAgg25,
  z22 := Try.sizeOf25,
  v22 := Try.zeroValue25,
  a24 := Try.isAgg3,
  z24 := Try.sizeOf3,
  t25 := Try.underlying122,
  a25 := Try.isAgg122,
  z25 := Try.sizeOf122,
  v25 := Try.zeroValue122,
  t39 := Try.underlying125,
  a39 := Try.isAgg125,
  z39 := Try.sizeOf125,
  v39 := Try.zeroValue125,
  t45 := Try.underlying127,
  a45 := Try.isAgg127,
  z45 := Try.sizeOf127,
  v45 := Try.zeroValue127,
  t46 := Try.underlying128,
  a46 := Try.isAgg128,
  z46 := Try.sizeOf128,
  v46 := Try.zeroValue128,
  t50 := Try.underlying132,
  a50 := Try.isAgg132,
  z50 := Try.sizeOf132,
  v50 := Try.zeroValue132,
  t53 := Try.underlying135,
  a53 := Try.isAgg135,
  z53 := Try.sizeOf135,
  v53 := Try.zeroValue135,
  t55 := Try.underlying137,
  a55 := Try.isAgg137,
  z55 := Try.sizeOf137,
  v55 := Try.zeroValue137,
  t66 := Try.underlying138,
  a66 := Try.isAgg138,
  z66 := Try.sizeOf138,
  v66 := Try.zeroValue138,
  t70 := Try.underlying142,
  a70 := Try.isAgg142,
  z70 := Try.sizeOf142,
  v70 := Try.zeroValue142,
  t76 := Try.underlying144,
  a76 := Try.isAgg144,
  z76 := Try.sizeOf144,
  v76 := Try.zeroValue144,
  t77 := Try.underlying35,
  a77 := Try.isAgg35,
  z77 := Try.sizeOf35,
  v77 := Try.zeroValue35 }
def Try.bitsLen_ren : Go.Shelf.Ren := ⟨fun | 125 => 99 | 128 => 108 | 129 => 109 | n => n, fun | 46 => 125 | 3 => 3 | 51 => 135 | 53 => 137 | 4 => 4 | 5 => 5 | 9 => 9 | n => n, fun | n => n⟩
theorem Try.bitsLen : Go.Proofs.Lays.n125 Try.prog Try.bitsLen_ren := {
  mixed := by kernel_rfl,
  f125 := Try.func99.trans (congrArg some (by kernel_rfl)),
  f128 := Try.func108.trans (congrArg some (by kernel_rfl)),
  f129 := Try.func109.trans (congrArg some (by kernel_rfl)),
  t3 := Try.underlying3,
  a3 := Try.isAgg3,
  z3 := Try.sizeOf3,
  v3 := Try.zeroValue3,
  t4 := Try.underlying4,
  a4 := Try.isAgg4,
  z4 := Try.sizeOf4,
  v4 := Try.zeroValue4,
  t5 := Try.underlying5,
  a5 := Try.isAgg5,
  z5 := Try.sizeOf5,
  v5 := Try.zeroValue5,
  t9 := Try.underlying9,
  a9 := Try.isAgg9,
  z9 := Try.sizeOf9,
  v9 := Try.zeroValue9,
  t46 := Try.underlying125,
  a46 := Try.isAgg125,
  z46 := Try.sizeOf125,
  v46 := Try.zeroValue125,
  t51 := Try.underlying135,
  a51 := Try.isAgg135,
  z51 := Try.sizeOf135,
  v51 := Try.zeroValue135,
  t53 := Try.underlying137,
  a53 := Try.isAgg137,
  z53 := Try.sizeOf137,
  v53 := Try.zeroValue137 }
theorem Try.hlen (n : Nat) (W : World) (h : n ≤ 12) : Calls Try.prog 99 #[.int .u64 n] W fun e w' => (∃ l : Int, e = .returned (.int .i64 l)) ∧ w' = W :=
  (Any.bits_Len Try.bitsLen n W (by omega) (by omega)).mono fun _ _ ⟨he, hw⟩ => ⟨⟨_, he⟩, hw⟩
theorem Try.variable47 (a : Int) (W : World) : Calls Try.prog 47 #[.int .i64 a] W fun e w' => e = .returned (.int .i64 (max a (wrap64 (-a)))) ∧ ∃ q, w' = W.drewN q := by
  go_enter Try.func47, Try.ntmps47
  go_wp2
  go_ret
  exact ⟨rfl, 0, rfl⟩
def byVar (x y : Int) : Int := wrap64 (max x (wrap64 (-x)) - max y (wrap64 (-y)))
theorem Try.closure95 (x y : Int) (W : World) : Calls Try.prog 95 #[.int .i64 x, .int .i64 y] W fun e w' => e = .returned (.int .i64 (byVar x y)) ∧ ∃ q, w' = W.drewN q := by
  have h1 := Try.variable47 x
  have h2 := Try.variable47 y
  unfold byVar
  generalize max x (wrap64 (-x)) = a at h1 ⊢
  generalize max y (wrap64 (-y)) = b at h2 ⊢
  go_enter Try.func95, Try.ntmps95
  go_wp2_with fail
  refine (h1 _).mono ?_
  rintro e w' ⟨rfl, q1, rfl⟩
  go_wp2_with fail
  refine (h2 _).mono ?_
  rintro e w' ⟨rfl, q2, rfl⟩
  go_wp2
  go_ret
  exact ⟨rfl, q1 + q2, by simp [World.drewN]⟩
theorem Try.sort94 (blk off cap : Nat) (d : Array Int) (w : World) (hH : Holds (Value.int .i64) w blk off d) (h12 : d.size ≤ 12) :
    Calls Try.prog 94 #[.slice (some ⟨blk, off, none⟩) d.size cap, .func (.func 95) #[] #[]] w fun e w' => e = .returned (.tuple #[]) ∧ ∃ n, w' = (putRow (Value.int .i64) w blk off (Sort.insertionSort (ltOf byVar) d 0 d.size)).drewN n := by
  have eg : ∀ args w, (callFunc 95 args).run Try.prog w = .ok (.enter 95 args) w := enters_of Try.func95 (by kernel_rfl) rfl
  have hcon := Any.slices_SortFunc_small Try.sortInt (Value.int .i64) (fun _ => rfl) byVar 95 #[] blk off cap d w eg (fun _ _ _ _ x y => Try.closure95 x y _) hH h12 Try.hlen
  exact hcon
theorem Try.insertion100_nil (A : Option Addr) (c : Nat) (f : Value) (W : World) : Calls Try.prog 100 #[.slice A 0 c, .int .i64 0, .int .i64 0, f] W fun e w' => e = .returned (.tuple #[]) ∧ w' = W := by
  go_enter Try.func100, Try.ntmps100
  go_wp2
  refine wp_loop_rounds 1 ?_
  rw [rounds_succ]
  go_wp2
  first | go_end0 | ((try simp only [Exit.inBlock, Exit.then]); refine bodyPost_ret (results_none rfl _ _ _) rfl ?_)
  exact ⟨rfl, rfl⟩
theorem Try.pdq98_nil (A : Option Addr) (c : Nat) (f : Value) (l : Int) (W : World) : Calls Try.prog 98 #[.slice A 0 c, .int .i64 0, .int .i64 0, .int .i64 l, f] W fun e w' => e = .returned (.tuple #[]) ∧ w' = W := by
  go_enter Try.func98, Try.ntmps98
  go_wp2
  refine wp_loop_rounds 1 ?_
  rw [rounds_succ]
  go_wp2_with fail
  refine (Try.insertion100_nil A c f _).mono ?_
  rintro e w' ⟨rfl, rfl⟩
  go_wp2
  (try simp only [Exit.inBlock, Exit.then]); refine bodyPost_ret (results_none rfl _ _ _) rfl ?_
  exact ⟨rfl, rfl⟩
theorem Try.sort94_nil (A : Option Addr) (c : Nat) (f : Value) (W : World) : Calls Try.prog 94 #[.slice A 0 c, f] W fun e w' => e = .returned (.tuple #[]) ∧ w' = W := by
  go_enter Try.func94, Try.ntmps94
  go_wp2_with fail
  refine (Try.hlen 0 _ (by omega)).mono ?_
  rintro e w' ⟨⟨l, rfl⟩, rfl⟩
  go_wp2_with fail
  refine (Try.pdq98_nil A c f l _).mono ?_
  rintro e w' ⟨rfl, rfl⟩
  first | go_end0 | (go_wp2; first | go_end0 | refine bodyPost_ret (results_none rfl _ _ _) rfl ?_) | refine bodyPost_ret (results_none rfl _ _ _) rfl ?_
  exact ⟨rfl, rfl⟩
theorem size_insInner {α : Type} [Inhabited α] (lt : α → α → Bool) (a : Nat) : ∀ (j : Nat) (d : Array α), (Sort.insInner lt a j d).size = d.size
  | 0, d => rfl
  | j + 1, d => by
    unfold Sort.insInner
    split
    · rw [size_insInner lt a j]; simp [Sort.swp]
    · rfl
def insRun {α : Type} [Inhabited α] (lt : α → α → Bool) (a : Nat) : Nat → Nat → Array α → Array α
  | 0, _, d => d
  | k + 1, i, d => insRun lt a k (i + 1) (Sort.insInner lt a i d)
theorem insOuter_run {α : Type} [Inhabited α] (lt : α → α → Bool) (a b : Nat) : ∀ (k i : Nat) (d : Array α), i + k = b → Sort.insOuter lt a b i d = insRun lt a k i d
  | 0, i, d, h => by unfold Sort.insOuter insRun; rw [if_neg (by omega)]
  | k + 1, i, d, h => by
    unfold Sort.insOuter insRun
    rw [if_pos (by omega)]
    exact insOuter_run lt a b k (i + 1) _ (by omega)
theorem size_insRun {α : Type} [Inhabited α] (lt : α → α → Bool) (a : Nat) : ∀ (k i : Nat) (d : Array α), (insRun lt a k i d).size = d.size
  | 0, _, _ => rfl
  | k + 1, i, d => by unfold insRun; rw [size_insRun lt a k, size_insInner]
def sortedByVar (l : List Int) : List Int := (insRun (ltOf byVar) 0 (l.length - 1) 1 l.toArray).toList
theorem sortedByVar_len (l : List Int) : (sortedByVar l).length = l.length := by
  unfold sortedByVar
  rw [Array.length_toList, size_insRun]
  simp
theorem sortedByVar_ins (l : List Int) (h : 0 < l.length) : Sort.insertionSort (ltOf byVar) l.toArray 0 l.toArray.size = (sortedByVar l).toArray := by
  unfold Sort.insertionSort sortedByVar
  rw [insOuter_run (ltOf byVar) 0 l.toArray.size (l.length - 1) 1 l.toArray (by simp; omega)]
end Go.Proofs
