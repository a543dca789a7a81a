/-
The row of the law FnExactListOk: for every input that the row speaks of, the call returns true and each argument reads as before; no conditions of ours.
-/
import Derived.Test.YtkkiibjnpkjijaaRows
import Derived.Test.YtkkiibjnpkjijaaQFnExactListOkx14
import Derived.Test.YtkkiibjnpkjijaaPureFnExactListOk
import Derived.Test.YtkkiibjnpkjijaaRowkit
import Derived.WalkKit
import Derived.ProofKit
import Derived.OpenShut
import Derived.ShutString
import Derived.ChangeOld
import Derived.Below
import Derived.SizedLaws
namespace Go.Proofs.Ytkkiibjnpkjijaa.fnExactListOk
open Go.ChangeShapes Go.WideShapes Go.ChangeAt Go.RowKit Go.Proofs.Ytkkiibjnpkjijaa.Rowkit Go.Proofs.YtkkiibjnpkjijaaW.PrintWords
open Go.ChangeMaps (open_string shut_string)
set_option linter.unusedVariables false
theorem own : ownKnob Try.prog.godebug = none := by kernel_rfl
theorem laidOut : laidOutB Try.prog = true := by kernel_rfl
set_option maxRecDepth 100000 in
theorem lifted (os : Os) (started : os.Started) (H : Type) (enc : TypeId × Value → H) :
    ReturnsInHanded {} Try.checked os 11 .any (Rows.fnExactListOkSpec.pre6 enc Try.prog Try.f11 Rows.fnExactListOkRow.domain false) (Rows.fnExactListOkSpec.post enc Try.prog Try.f11 false true false false) := by
  refine returnsInHanded_of_change_sized (C := Try.checked) own started (by kernel_rfl) Try.func11
    (ChangeSpec.witness6 (enc := enc) (C := Try.checked) false ⟨#[], #[.slice none 0 0], []⟩ 8 (by kernel_rfl) (by kernel_rfl) (by kernel_rfl) (by kernel_rfl)) ?_
  intro W base args ds gs before hval0 hW hcnd hsz0 _
  have hsz : (DataW.weightsEach Try.prog (Try.f11.params.toList ++ Rows.fnExactListOkSpec.plain.varTypes Try.prog) (ds ++ gs)).all (· ≤ reachBytes) = true := hsz0
  have hval : ∀ (j : Nat) t v, Try.f11.params[j]? = some t → args[j]? = some v → Value.okWide Try.prog W .any base t v := hval0
  have hW' := hW
  obtain ⟨p, q, hA0, hV, rfl, hfz, hnd⟩ := hW
  have hA : DataW.TrodAll enc Try.prog W 0 (fun _ => true) true Try.f11.params.toList args.toList ds p := hA0
  rw [Try.params11] at hA hval hsz
  obtain ⟨v0, vs0, d0, ds0, p0, q0, hargs, rfl, rfl, h0, r0⟩ := trodAll_cons hA
  obtain ⟨rfl, rfl, rfl⟩ := trodAll_nil r0
  obtain rfl : args = #[v0] := by cases args; simp_all
  obtain ⟨rfl, rfl⟩ := trodVars_none hV
  have k0 := h0
  have lt0 : ∀ x ∈ p0, x.block < W.heap.size := by obtain ⟨m, hm⟩ := k0; exact DataW.trod_lt m _ _ _ hm
  obtain ⟨a0, len0, cap0, rfl⟩ := okWide_slice Try.underlying64 (hval 0 64 v0 rfl rfl)
  obtain ⟨fuel0, hf0⟩ := h0
  obtain ⟨b0, m0, n0, tl0, e0, hl0, hc0, hm0, y0, hq0⟩ := open_items Try.underlying64 Try.underlying49 (by kernel_rfl) (by kernel_rfl) (by kernel_rfl) Try.underlying3 Try.underlying9 Try.underlying21 Try.underlying4 Try.underlying47 hf0 (weights_of hsz (j := 0) (t := 64) rfl rfl)
  cases e0
  obtain ⟨l0, hlen0, hr0, hw0⟩ : ∃ l : List QFnExactListOk.S49, l.length = len0 ∧ Kd.C QFnExactListOk.k49 W a0 l.length l ∧ ∀ x ∈ l, (Lit.int .i64 x.f0).wf = true ∧ x.f1.size ≤ 140737488351232 ∧ (Lit.int .i32 x.f2).wf = true ∧ (Lit.int .u32 x.f4).wf = true := by
    refine ⟨tl0.map (fun z => ⟨z.1, z.2.1, z.2.2.1, z.2.2.2.1, z.2.2.2.2⟩), by rw [List.length_map, hl0], ⟨rfl, by rw [List.length_map, hl0]; exact hm0, fun hn => ?_⟩, ?_⟩
    · rw [List.length_map, hl0] at hn
      obtain ⟨x, ha, hx⟩ := hq0 hn
      refine ⟨x, ha, fun j p hj => ?_⟩
      rw [List.getElem?_map] at hj
      obtain ⟨z, hz, rfl⟩ := Option.map_eq_some_iff.1 hj
      exact ⟨[.int .i64 z.1, .string z.2.1, .int .i32 z.2.2.1, .bool z.2.2.2.1, .int .u32 z.2.2.2.2], rfl, ⟨[_], [_, _, _, _], rfl, rfl, ⟨[_], [_, _, _], rfl, rfl, ⟨[_], [_, _], rfl, rfl, ⟨[_], [_], rfl, rfl, rfl⟩⟩⟩⟩, (hx j z hz).1⟩
    · intro x hx'
      obtain ⟨z, hz, rfl⟩ := List.mem_map.1 hx'
      obtain ⟨j, hj⟩ := List.getElem?_of_mem hz
      obtain ⟨x, ha, hx⟩ := hq0 (by have := (List.getElem?_eq_some_iff.1 hj).1; omega)
      exact (hx j z hj).2
  subst hlen0
  obtain ⟨k, h⟩ := Pure.FnExactListOk l0 hm0 y0 hw0
  refine (QFnExactListOk.laws_FnExactListOk.calls k _ _ l0 true W hr0 hc0 h).mono fun e W' he => ?_
  obtain ⟨rfl, bel⟩ := he
  exact ⟨_, rfl, _, _, _, [], _, [], hW', trodAll_mk1 (shut_bool Try.underlying4 _), (trodAll_cons_mk (Below.trod laidOut (by kernel_rfl) (of_decide_eq_true (by kernel_rfl)) k0 bel lt0) trodAll_mk0), rfl, bel.frame _, fun h => by cases h⟩
theorem over : Rows.fnExactListOkRow.holds Try.pinned (OpenSpec.ofChange Rows.fnExactListOkSpec) :=
  OpenClaim.holds_of_wide 11 Try.f11 rfl rfl rfl rfl rfl rfl rfl ⟨rfl, rfl, rfl, rfl, rfl⟩ rfl rfl rfl rfl rfl (by kernel_rfl) Try.func11 (by kernel_rfl)
    (of_decide_eq_true (by kernel_rfl)) (by unfold Func.isWrapper; first | (rw [if_pos (by decide +kernel)]; kernel_rfl) | (rw [if_neg (by decide +kernel)]; exact ⟨rfl, rfl⟩))
    (fun os started H enc _ => lifted os started H enc)
theorem proved : Rows.FnExactListOkSaid := over
#print axioms proved
end Go.Proofs.Ytkkiibjnpkjijaa.fnExactListOk
namespace Go.Proofs.Ytkkiibjnpkjijaa
/-- The row, under a short name, for the claim. -/
theorem fnExactListOk_holds : Rows.FnExactListOkSaid := fnExactListOk.proved
end Go.Proofs.Ytkkiibjnpkjijaa
