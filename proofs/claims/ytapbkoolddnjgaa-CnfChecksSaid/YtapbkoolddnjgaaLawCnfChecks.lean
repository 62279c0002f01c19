/- The law ratchetlaw03.CnfChecks: for every input the call returns true. No condition. -/
import Derived.Test.YtapbkoolddnjgaaRows
import Derived.Test.YtapbkoolddnjgaaPBx18
import Derived.Test.YtapbkoolddnjgaaPureCnfChecks
import Derived.Test.YtapbkoolddnjgaaRo
import Derived.WalkKit
import Derived.ProofKit
import Derived.OpenShut
import Derived.ShutString
import Derived.ChangeOld
import Derived.Below
import Derived.SizedLaws
import Derived.Carry
namespace Go.Proofs.Ytapbkoolddnjgaa.cnfChecks
open Go.ChangeShapes Go.WideShapes Go.ChangeAt Go.RowKit Go.Proofs.Sl Go.Proofs.YtapbkoolddnjgaaW.PrintWords Go.Proofs.Ytapbkoolddnjgaa.PB
set_option linter.unusedVariables false
theorem own : ownKnob Try.prog.godebug = none := by kernel_rfl
theorem laidOut : laidOutB Try.prog = true := by kernel_rfl
def wf3 (n : Int) : Prop := (Lit.int .i64 n).wf = true
def wf25 (l : List Int) : Prop := ∀ x ∈ l, wf3 x
def wf22 (l : List (List Int)) : Prop := ∀ x ∈ l, wf25 x
theorem op3 : Opens Try.prog 3 (Kd.int .i64) wf3 := Opens.int Try.underlying3
theorem op25 : Opens Try.prog 25 (Kd.slice 3 (Kd.int .i64)) wf25 := Opens.slice wf3 Try.underlying25 (by kernel_rfl) 0 op3
theorem op22 : Opens Try.prog 22 (Kd.slice 25 (Kd.slice 3 (Kd.int .i64))) wf22 := Opens.slice wf25 Try.underlying22 (by kernel_rfl) [] op25
theorem op24 : Opens Try.prog 24 (Kd.pair (Kd.int .i64) (Kd.slice 25 (Kd.slice 3 (Kd.int .i64)))) (fun x => wf3 x.1 ∧ wf22 x.2) :=
  Opens.struct Try.underlying24 (by kernel_rfl) (OpensF.cons wf3 wf22 op3 rfl (by kernel_rfl) (OpensF.one wf22 op22 rfl (by kernel_rfl)))
set_option maxRecDepth 100000 in
theorem lifted (os : Os) (started : os.Started) (H : Type) (enc : TypeId × Value → H) :
    ReturnsInHanded {} Try.checked os 3 .any (Rows.cnfChecksSpec.pre6 enc Try.prog Try.f3 Rows.cnfChecksRow.domain false) (Rows.cnfChecksSpec.post enc Try.prog Try.f3 false true false false) := by
  refine returnsInHanded_of_change_sized (C := Try.checked) own started (by kernel_rfl) Try.func3
    (ChangeSpec.witness6 (enc := enc) (C := Try.checked) false ⟨#[], #[.agg #[.int .i64 0, .slice none 0 0], .slice none 0 0], []⟩ 8 (by kernel_rfl) (by kernel_rfl) (by kernel_rfl) (by kernel_rfl)) ?_
  intro W base args ds gs before hval0 hW hcnd hsz0 _
  have hval : ∀ (j : Nat) t v, Try.f3.params[j]? = some t → args[j]? = some v → Value.okWide Try.prog W .any base t v := hval0
  have hW' := hW
  obtain ⟨p, q, hA0, hV, rfl, hfz, hnd⟩ := hW
  have hA : DataW.TrodAll enc Try.prog W 0 (fun _ => true) true Try.f3.params.toList args.toList ds p := hA0
  rw [Try.params3] at hA hval
  obtain ⟨v0, vs0, d0, ds0, p0, q0, hargs, rfl, rfl, h0, r0⟩ := trodAll_cons hA
  obtain ⟨v1, vs1, d1, ds1, p1, q1, rfl, rfl, rfl, h1, r1⟩ := trodAll_cons r0
  obtain ⟨rfl, rfl, rfl⟩ := trodAll_nil r1
  obtain rfl : args = #[v0, v1] := by cases args; simp_all
  obtain ⟨rfl, rfl⟩ := trodVars_none hV
  have lt0 : ∀ x ∈ p0, x.block < W.heap.size := by obtain ⟨m, hm⟩ := h0; exact DataW.trod_lt m _ _ _ hm
  have lt1 : ∀ x ∈ p1, x.block < W.heap.size := by obtain ⟨m, hm⟩ := h1; exact DataW.trod_lt m _ _ _ hm
  have k0 := h0; have k1 := h1
  obtain ⟨cs0, rfl⟩ : ∃ cs, v0 = .agg cs := by
    have := hval 0 24 v0 rfl rfl
    unfold Value.okWide at this
    rw [Try.underlying24] at this
    obtain ⟨cs, h, _⟩ := this
    exact ⟨cs, h⟩
  obtain ⟨A1, n1, c1, rfl⟩ := okWide_slice Try.underlying25 (hval 1 25 v1 rfl rfl)
  obtain ⟨f0, hf0⟩ := h0; obtain ⟨f1, hf1⟩ := h1
  obtain ⟨⟨x0_0, x0_1⟩, ⟨e0, e1, hcs, h00, A0, c0, h01, hc0, hr0⟩, w0⟩ := op24.out enc W f0 _ _ hf0
  obtain ⟨x1, ⟨A1', c1', h11, hc1, hr1⟩, w1⟩ := op25.out enc W f1 _ _ hf1
  obtain rfl : e0 = [.int .i64 x0_0] := h00
  subst h01
  obtain rfl : cs0 = #[.int .i64 x0_0, .slice A0 x0_1.length c0] := by cases cs0; simp_all [Value.cells]
  simp only [Value.cells, List.cons.injEq, Value.slice.injEq, and_true] at h11
  obtain ⟨rfl, rfl, rfl⟩ := h11
  clear hA0 hval0 hsz0
  obtain ⟨k, hk⟩ := Pure.CnfChecks x0_0 x0_1 x1
  refine (ratchetlaw03_CnfChecks.calls k x0_0 A0 c0 x0_1 A1 c1 x1 true W hr0 hc0 hr1 hc1 hk).mono fun e W' ⟨he, bel⟩ => ?_
  subst he
  exact ⟨_, rfl, _, _, _, [], _, [], hW', trodAll_mk1 (shut_bool Try.underlying4 _), (trodAll_cons_mk (Below.trod laidOut (by kernel_rfl) (of_decide_eq_true (by kernel_rfl)) k0 bel lt0) (trodAll_cons_mk (Below.trod laidOut (by kernel_rfl) (of_decide_eq_true (by kernel_rfl)) k1 bel lt1) trodAll_mk0)), rfl, bel.frame _, fun h => by cases h⟩
theorem over : Rows.cnfChecksRow.holds Try.pinned (OpenSpec.ofChange Rows.cnfChecksSpec) :=
  OpenClaim.holds_of_wide 3 Try.f3 rfl rfl rfl rfl rfl rfl rfl ⟨rfl, rfl, rfl, rfl, rfl⟩ rfl rfl rfl rfl rfl (by kernel_rfl) Try.func3 (by kernel_rfl)
    (of_decide_eq_true (by kernel_rfl)) (by unfold Func.isWrapper; first | (rw [if_pos (by decide +kernel)]; kernel_rfl) | (rw [if_neg (by decide +kernel)]; exact ⟨rfl, rfl⟩))
    (fun os started H enc _ => lifted os started H enc)
theorem proved : Rows.CnfChecksSaid := over
#print axioms proved
end Go.Proofs.Ytapbkoolddnjgaa.cnfChecks
namespace Go.Proofs.Ytapbkoolddnjgaa
/-- The row, under a short name, for the claim. -/
theorem cnfChecks_holds : Rows.CnfChecksSaid := cnfChecks.proved
end Go.Proofs.Ytapbkoolddnjgaa
