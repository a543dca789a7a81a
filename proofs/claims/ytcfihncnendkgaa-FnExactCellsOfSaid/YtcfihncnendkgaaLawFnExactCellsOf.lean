/-
The row of the law FnExactCellsOf: for every input that the row speaks of, the call returns true and each argument reads as before; no conditions of ours.
-/
import Derived.Test.YtcfihncnendkgaaRows
import Derived.Test.YtcfihncnendkgaaQFnExactCellsOfx7
import Derived.Test.YtcfihncnendkgaaPureFnExactCellsOf
import Derived.Test.YtcfihncnendkgaaRowkit
import Derived.WalkKit
import Derived.ProofKit
import Derived.OpenShut
import Derived.ShutString
import Derived.ChangeOld
import Derived.Below
import Derived.SizedLaws
namespace Go.Proofs.Ytcfihncnendkgaa.fnExactCellsOf
open Go.ChangeShapes Go.WideShapes Go.ChangeAt Go.RowKit Go.Proofs.Ytcfihncnendkgaa.Rowkit Go.Proofs.YtcfihncnendkgaaW.PrintWords
open Go.ChangeMaps (open_string shut_string)
set_option linter.unusedVariables false
theorem own : ownKnob Try.prog.godebug = none := by kernel_rfl
theorem laidOut : laidOutB Try.prog = true := by kernel_rfl
set_option maxRecDepth 100000 in
theorem lifted (os : Os) (started : os.Started) (H : Type) (enc : TypeId × Value → H) :
    ReturnsInHanded {} Try.checked os 7 .any (Rows.fnExactCellsOfSpec.pre6 enc Try.prog Try.f7 Rows.fnExactCellsOfRow.domain false) (Rows.fnExactCellsOfSpec.post enc Try.prog Try.f7 false true false false) := by
  refine returnsInHanded_of_change_sized (C := Try.checked) own started (by kernel_rfl) Try.func7
    (ChangeSpec.witness6 (enc := enc) (C := Try.checked) false ⟨#[], #[.agg #[.int .i64 0, .string ByteArray.empty, .int .i32 0, .bool false, .int .u32 0]], []⟩ 8 (by kernel_rfl) (by kernel_rfl) (by kernel_rfl) (by kernel_rfl)) ?_
  intro W base args ds gs before hval0 hW hcnd hsz0 _
  have hsz : (DataW.weightsEach Try.prog (Try.f7.params.toList ++ Rows.fnExactCellsOfSpec.plain.varTypes Try.prog) (ds ++ gs)).all (· ≤ reachBytes) = true := hsz0
  have hval : ∀ (j : Nat) t v, Try.f7.params[j]? = some t → args[j]? = some v → Value.okWide Try.prog W .any base t v := hval0
  have hW' := hW
  obtain ⟨p, q, hA0, hV, rfl, hfz, hnd⟩ := hW
  have hA : DataW.TrodAll enc Try.prog W 0 (fun _ => true) true Try.f7.params.toList args.toList ds p := hA0
  rw [Try.params7] at hA hval hsz
  obtain ⟨v0, vs0, d0, ds0, p0, q0, hargs, rfl, rfl, h0, r0⟩ := trodAll_cons hA
  obtain ⟨rfl, rfl, rfl⟩ := trodAll_nil r0
  obtain rfl : args = #[v0] := by cases args; simp_all
  obtain ⟨rfl, rfl⟩ := trodVars_none hV
  have k0 := h0
  have lt0 : ∀ x ∈ p0, x.block < W.heap.size := by obtain ⟨m, hm⟩ := k0; exact DataW.trod_lt m _ _ _ hm
  obtain ⟨c0_0, c0_1, c0_2, c0_3, c0_4, u0, u1, u2, u3, u4, m0, rfl, t0_0, t0_1, t0_2, t0_3, t0_4, g0⟩ := open_five Try.underlying32 (by kernel_rfl) (by kernel_rfl) (hval 0 32 v0 rfl rfl) h0 (weights_of hsz (j := 0) (t := 32) rfl rfl)
  obtain ⟨a0_0, rfl, w0_0⟩ := leaf_int Try.underlying3 t0_0
  obtain ⟨a0_1, rfl, w0_1⟩ := leaf_string Try.underlying9 t0_1 g0
  obtain ⟨a0_2, rfl, w0_2⟩ := leaf_int Try.underlying21 t0_2
  obtain ⟨a0_3, rfl⟩ := leaf_bool Try.underlying4 t0_3
  obtain ⟨a0_4, rfl, w0_4⟩ := leaf_int Try.underlying22 t0_4
  obtain ⟨k, h⟩ := Pure.FnExactCellsOf a0_0 a0_1 a0_2 a0_3 a0_4 w0_0 w0_1 w0_2 w0_4
  refine (QFnExactCellsOf.laws_FnExactCellsOf.calls k a0_0 a0_1 a0_2 a0_3 a0_4 true W  h).mono fun e W' he => ?_
  obtain ⟨rfl, bel⟩ := he
  exact ⟨_, rfl, _, _, _, [], _, [], hW', trodAll_mk1 (shut_bool Try.underlying4 _), (trodAll_cons_mk (Below.trod laidOut (by kernel_rfl) (of_decide_eq_true (by kernel_rfl)) k0 bel lt0) trodAll_mk0), rfl, bel.frame _, fun h => by cases h⟩
theorem over : Rows.fnExactCellsOfRow.holds Try.pinned (OpenSpec.ofChange Rows.fnExactCellsOfSpec) :=
  OpenClaim.holds_of_wide 7 Try.f7 rfl rfl rfl rfl rfl rfl rfl ⟨rfl, rfl, rfl, rfl, rfl⟩ rfl rfl rfl rfl rfl (by kernel_rfl) Try.func7 (by kernel_rfl)
    (of_decide_eq_true (by kernel_rfl)) (by unfold Func.isWrapper; first | (rw [if_pos (by decide +kernel)]; kernel_rfl) | (rw [if_neg (by decide +kernel)]; exact ⟨rfl, rfl⟩))
    (fun os started H enc _ => lifted os started H enc)
theorem proved : Rows.FnExactCellsOfSaid := over
#print axioms proved
end Go.Proofs.Ytcfihncnendkgaa.fnExactCellsOf
namespace Go.Proofs.Ytcfihncnendkgaa
/-- The row, under a short name, for the claim. -/
theorem fnExactCellsOf_holds : Rows.FnExactCellsOfSaid := fnExactCellsOf.proved
end Go.Proofs.Ytcfihncnendkgaa
