/- The row of the claim: for every input the law returns true. No condition. -/
import Derived.Test.YtapbkoolddnjgaaRows
import Derived.Test.YtapbkoolddnjgaaQfPAx26
import Derived.Test.YtapbkoolddnjgaaQfPureCnfFollows
import Derived.Test.YtapbkoolddnjgaaQfRo
import Derived.WalkKit
import Derived.ProofKit
import Derived.OpenShut
import Derived.ShutString
import Derived.ChangeOld
import Derived.Below
import Derived.SizedLaws
import Derived.Carry
namespace Go.Proofs.Ytapbkoolddnjgaa.cnfFollows
open Go.ChangeShapes Go.WideShapes Go.ChangeAt Go.RowKit Go.Proofs.Sl Go.Proofs.YtapbkoolddnjgaaW.PrintWords Go.Proofs.Ytapbkoolddnjgaa.PA
open Go.ChangeMaps (open_string shut_string)
set_option linter.unusedVariables false
theorem own : ownKnob Try.prog.godebug = none := by kernel_rfl
theorem laidOut : laidOutB Try.prog = true := by kernel_rfl
def wf3 (n : Int) : Prop := (Lit.int .i64 n).wf = true
theorem op3 : Opens Try.prog 3 (Kd.int .i64) wf3 := Opens.int Try.underlying3
def wf25 (l : List (Int)) : Prop := ∀ x ∈ l, wf3 x
theorem op25 : Opens Try.prog 25 (Kd.slice 3 (Kd.int .i64)) wf25 := Opens.slice wf3 Try.underlying25 (by kernel_rfl) (0 : Int) op3
def wf22 (l : List (List (Int))) : Prop := ∀ x ∈ l, wf25 x
theorem op22 : Opens Try.prog 22 (Kd.slice 25 (Kd.slice 3 (Kd.int .i64))) wf22 := Opens.slice wf25 Try.underlying22 (by kernel_rfl) ([] : List (Int)) op25
def wf24t : (Int × List (List (Int))) → Prop := (fun (x : Int × List (List (Int))) => wf3 x.1 ∧ wf22 x.2)
theorem op24t : Opens Try.prog 24 (Kd.pair (Kd.int .i64) (Kd.slice 25 (Kd.slice 3 (Kd.int .i64)))) wf24t := Opens.struct Try.underlying24 (by kernel_rfl) (OpensF.cons wf3 wf22 op3 rfl (by kernel_rfl) (OpensF.one wf22 op22 rfl (by kernel_rfl)))
set_option maxRecDepth 100000 in
theorem lifted (os : Os) (started : os.Started) (H : Type) (enc : TypeId × Value → H) :
    ReturnsInHanded {} Try.checked os 4 .any (Rows.cnfFollowsSpec.pre6 enc Try.prog Try.f4 Rows.cnfFollowsRow.domain false) (Rows.cnfFollowsSpec.post enc Try.prog Try.f4 false true false false) := by
  refine returnsInHanded_of_change_sized (C := Try.checked) own started (by kernel_rfl) Try.func4
    (ChangeSpec.witness6 (enc := enc) (C := Try.checked) false ⟨#[], #[.agg #[.int .i64 0, .slice none 0 0], .slice none 0 0, .int .i64 0], []⟩ 8 (by kernel_rfl) (by kernel_rfl) (by kernel_rfl) (by kernel_rfl)) ?_
  intro W base args ds gs before hval0 hW hcnd hsz0 _
  have hval : ∀ (j : Nat) t v, Try.f4.params[j]? = some t → args[j]? = some v → Value.okWide Try.prog W .any base t v := hval0
  have hW' := hW
  obtain ⟨p, q, hA0, hV, rfl, hfz, hnd⟩ := hW
  have hA : DataW.TrodAll enc Try.prog W 0 (fun _ => true) true Try.f4.params.toList args.toList ds p := hA0
  rw [Try.params4] at hA hval
  obtain ⟨v0, vs0, d0, ds0, p0, q0, hargs, rfl, rfl, h0, r0⟩ := trodAll_cons hA
  obtain ⟨v1, vs1, d1, ds1, p1, q1, rfl, rfl, rfl, h1, r1⟩ := trodAll_cons r0
  obtain ⟨v2, vs2, d2, ds2, p2, q2, rfl, rfl, rfl, h2, r2⟩ := trodAll_cons r1
  obtain ⟨rfl, rfl, rfl⟩ := trodAll_nil r2
  obtain rfl : args = #[v0, v1, v2] := by cases args; simp_all
  obtain ⟨rfl, rfl⟩ := trodVars_none hV
  have k0 := h0
  have lt0 : ∀ x ∈ p0, x.block < W.heap.size := by obtain ⟨m, hm⟩ := h0; exact DataW.trod_lt m _ _ _ hm
  obtain ⟨cs0, rfl⟩ : ∃ cs, v0 = .agg cs := by
    have := hval 0 24 v0 rfl rfl
    unfold Value.okWide at this
    rw [Try.underlying24] at this
    obtain ⟨cs, h, _⟩ := this
    exact ⟨cs, h⟩
  obtain ⟨f0, hf0⟩ := h0
  obtain ⟨⟨a0_0, l0_1⟩, ⟨r0_0, s0_0, t0_0, g0_0, ⟨A0_1, c0_1, g0_1, hc0_1, hr0_1⟩⟩, w0⟩ := op24t.out enc W f0 _ _ hf0
  subst g0_1
  subst g0_0
  obtain rfl : cs0 = #[.int .i64 a0_0, .slice A0_1 l0_1.length c0_1] := by cases cs0; simp_all [Value.cells]
  have k1 := h1
  have lt1 : ∀ x ∈ p1, x.block < W.heap.size := by obtain ⟨m, hm⟩ := h1; exact DataW.trod_lt m _ _ _ hm
  obtain ⟨A1, n1, c1, rfl⟩ := okWide_slice Try.underlying25 (hval 1 25 v1 rfl rfl)
  obtain ⟨f1, hf1⟩ := h1
  obtain ⟨l1, ⟨B1, d1, e1, hc1, hr1⟩, w1⟩ := op25.out enc W f1 _ _ hf1
  simp only [Value.cells, List.cons.injEq, Value.slice.injEq, and_true] at e1
  obtain ⟨rfl, rfl, rfl⟩ := e1
  obtain ⟨a2, rfl, rfl, rfl, w2⟩ := open_int Try.underlying3 (hval 2 3 v2 rfl rfl) h2
  clear hA0 hval0 hsz0
  obtain ⟨k, hk⟩ := Pure.CnfFollows a0_0 l0_1 l1 a2
  refine (ratchetlaw03_CnfFollows.calls k a0_0 A0_1 c0_1 l0_1 A1 c1 l1 a2 true W hr0_1 hc0_1 hr1 hc1 hk).mono fun e W' ⟨he, bel⟩ => ?_
  subst he
  exact ⟨_, rfl, _, _, _, [], _, [], hW', trodAll_mk1 (shut_bool Try.underlying4 _), (trodAll_cons_mk (Below.trod laidOut (by kernel_rfl) (of_decide_eq_true (by kernel_rfl)) k0 bel lt0) (trodAll_cons_mk (Below.trod laidOut (by kernel_rfl) (of_decide_eq_true (by kernel_rfl)) k1 bel lt1) (trodAll_cons_mk (shut_int Try.underlying3 w2) trodAll_mk0))), rfl, bel.frame _, fun h => by cases h⟩
theorem over : Rows.cnfFollowsRow.holds Try.pinned (OpenSpec.ofChange Rows.cnfFollowsSpec) :=
  OpenClaim.holds_of_wide 4 Try.f4 rfl rfl rfl rfl rfl rfl rfl ⟨rfl, rfl, rfl, rfl, rfl⟩ rfl rfl rfl rfl rfl (by kernel_rfl) Try.func4 (by kernel_rfl)
    (of_decide_eq_true (by kernel_rfl)) (by unfold Func.isWrapper; first | (rw [if_pos (by decide +kernel)]; kernel_rfl) | (rw [if_neg (by decide +kernel)]; exact ⟨rfl, rfl⟩))
    (fun os started H enc _ => lifted os started H enc)
theorem proved : Rows.CnfFollowsSaid := over
#print axioms proved
end Go.Proofs.Ytapbkoolddnjgaa.cnfFollows
namespace Go.Proofs.Ytapbkoolddnjgaa
theorem cnfFollows_holds : Rows.CnfFollowsSaid := cnfFollows.proved
end Go.Proofs.Ytapbkoolddnjgaa
