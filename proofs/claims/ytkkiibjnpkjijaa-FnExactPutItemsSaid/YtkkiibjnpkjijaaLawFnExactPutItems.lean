/-
The row of the law FnExactPutItems: for every input that the row speaks of, the call returns true and each argument reads as before; no conditions of ours.
-/
import Derived.Test.YtkkiibjnpkjijaaRows
import Derived.Test.YtkkiibjnpkjijaaQFnExactPutItemsx10
import Derived.Test.YtkkiibjnpkjijaaPureFnExactPutItems
import Derived.Test.YtkkiibjnpkjijaaRowkit
import Derived.WalkKit
import Derived.ProofKit
import Derived.OpenShut
import Derived.ShutString
import Derived.ChangeOld
import Derived.Below
import Derived.SizedLaws
namespace Go.Proofs.Ytkkiibjnpkjijaa.fnExactPutItems
open Go.ChangeShapes Go.WideShapes Go.ChangeAt Go.RowKit Go.Proofs.Ytkkiibjnpkjijaa.Rowkit Go.Proofs.YtkkiibjnpkjijaaW.PrintWords
open Go.ChangeMaps (open_string shut_string)
set_option linter.unusedVariables false
theorem own : ownKnob Try.prog.godebug = none := by kernel_rfl
theorem laidOut : laidOutB Try.prog = true := by kernel_rfl
set_option maxRecDepth 100000 in
theorem lifted (os : Os) (started : os.Started) (H : Type) (enc : TypeId × Value → H) :
    ReturnsInHanded {} Try.checked os 9 .any (Rows.fnExactPutItemsSpec.pre6 enc Try.prog Try.f9 Rows.fnExactPutItemsRow.domain false) (Rows.fnExactPutItemsSpec.post enc Try.prog Try.f9 false true false false) := by
  refine returnsInHanded_of_change_sized (C := Try.checked) own started (by kernel_rfl) Try.func9
    (ChangeSpec.witness6 (enc := enc) (C := Try.checked) false ⟨#[], #[.agg #[.slice none 0 0], .int .i64 0, .slice none 0 0], []⟩ 8 (by kernel_rfl) (by kernel_rfl) (by kernel_rfl) (by kernel_rfl)) ?_
  intro W base args ds gs before hval0 hW hcnd hsz0 _
  have hsz : (DataW.weightsEach Try.prog (Try.f9.params.toList ++ Rows.fnExactPutItemsSpec.plain.varTypes Try.prog) (ds ++ gs)).all (· ≤ reachBytes) = true := hsz0
  have hval : ∀ (j : Nat) t v, Try.f9.params[j]? = some t → args[j]? = some v → Value.okWide Try.prog W .any base t v := hval0
  have hW' := hW
  obtain ⟨p, q, hA0, hV, rfl, hfz, hnd⟩ := hW
  have hA : DataW.TrodAll enc Try.prog W 0 (fun _ => true) true Try.f9.params.toList args.toList ds p := hA0
  rw [Try.params9] at hA hval hsz
  obtain ⟨v0, vs0, d0, ds0, p0, q0, hargs, rfl, rfl, h0, r0⟩ := trodAll_cons hA
  obtain ⟨v1, vs1, d1, ds1, p1, q1, rfl, rfl, rfl, h1, r1⟩ := trodAll_cons r0
  obtain ⟨v2, vs2, d2, ds2, p2, q2, rfl, rfl, rfl, h2, r2⟩ := trodAll_cons r1
  obtain ⟨rfl, rfl, rfl⟩ := trodAll_nil r2
  obtain rfl : args = #[v0, v1, v2] := by cases args; simp_all
  obtain ⟨rfl, rfl⟩ := trodVars_none hV
  have k0 := h0
  have lt0 : ∀ x ∈ p0, x.block < W.heap.size := by obtain ⟨m, hm⟩ := k0; exact DataW.trod_lt m _ _ _ hm
  obtain ⟨c0, u0, m0, rfl, t0, g0⟩ := open_one Try.underlying42 (by kernel_rfl) (by kernel_rfl) (hval 0 42 v0 rfl rfl) h0 (weights_of hsz (j := 0) (t := 42) rfl rfl)
  obtain ⟨b0_0, len0_0, cap0_0, z0_0, rfl, w0_0, y0_0⟩ := leaf_ints Try.underlying24 Try.underlying47 (by kernel_rfl) (by kernel_rfl) t0 g0
  obtain ⟨l0_0, rfl, hr0_0, hm0_0, hw0_0, hc0_0⟩ := ReadsInt.ofRowC w0_0
  obtain ⟨a1, rfl, rfl, rfl, w1⟩ := open_int Try.underlying3 (hval 1 3 v1 rfl rfl) h1
  have k2 := h2
  have lt2 : ∀ x ∈ p2, x.block < W.heap.size := by obtain ⟨m, hm⟩ := k2; exact DataW.trod_lt m _ _ _ hm
  obtain ⟨a2, len2, cap2, rfl⟩ := okWide_slice Try.underlying64 (hval 2 64 v2 rfl rfl)
  obtain ⟨fuel2, hf2⟩ := h2
  obtain ⟨b2, m2, n2, tl2, e2, hl2, hc2, hm2, y2, hq2⟩ := open_items Try.underlying64 Try.underlying49 (by kernel_rfl) (by kernel_rfl) (by kernel_rfl) Try.underlying3 Try.underlying9 Try.underlying21 Try.underlying4 Try.underlying47 hf2 (weights_of hsz (j := 2) (t := 64) rfl rfl)
  cases e2
  obtain ⟨l2, hlen2, hr2, hw2⟩ : ∃ l : List QFnExactPutItems.S49, l.length = len2 ∧ Kd.C QFnExactPutItems.k49 W a2 l.length l ∧ ∀ x ∈ l, (Lit.int .i64 x.f0).wf = true ∧ x.f1.size ≤ 140737488351232 ∧ (Lit.int .i32 x.f2).wf = true ∧ (Lit.int .u32 x.f4).wf = true := by
    refine ⟨tl2.map (fun z => ⟨z.1, z.2.1, z.2.2.1, z.2.2.2.1, z.2.2.2.2⟩), by rw [List.length_map, hl2], ⟨rfl, by rw [List.length_map, hl2]; exact hm2, fun hn => ?_⟩, ?_⟩
    · rw [List.length_map, hl2] at hn
      obtain ⟨x, ha, hx⟩ := hq2 hn
      refine ⟨x, ha, fun j p hj => ?_⟩
      rw [List.getElem?_map] at hj
      obtain ⟨z, hz, rfl⟩ := Option.map_eq_some_iff.1 hj
      exact ⟨[.int .i64 z.1, .string z.2.1, .int .i32 z.2.2.1, .bool z.2.2.2.1, .int .u32 z.2.2.2.2], rfl, ⟨[_], [_, _, _, _], rfl, rfl, ⟨[_], [_, _, _], rfl, rfl, ⟨[_], [_, _], rfl, rfl, ⟨[_], [_], rfl, rfl, rfl⟩⟩⟩⟩, (hx j z hz).1⟩
    · intro x hx'
      obtain ⟨z, hz, rfl⟩ := List.mem_map.1 hx'
      obtain ⟨j, hj⟩ := List.getElem?_of_mem hz
      obtain ⟨x, ha, hx⟩ := hq2 (by have := (List.getElem?_eq_some_iff.1 hj).1; omega)
      exact (hx j z hj).2
  subst hlen2
  obtain ⟨k, h⟩ := Pure.FnExactPutItems l0_0 a1 l2 hm0_0 y0_0 hw0_0 w1 hm2 y2 hw2
  refine (QFnExactPutItems.laws_FnExactPutItems.calls k _ _ l0_0 a1 _ _ l2 true W (Kd.C_of_reads (d := (0 : Int)) (h1 := fun _ => rfl) hr0_0) hc0_0 hr2 hc2 h).mono fun e W' he => ?_
  obtain ⟨rfl, bel⟩ := he
  exact ⟨_, rfl, _, _, _, [], _, [], hW', trodAll_mk1 (shut_bool Try.underlying4 _), (trodAll_cons_mk (Below.trod laidOut (by kernel_rfl) (of_decide_eq_true (by kernel_rfl)) k0 bel lt0) (trodAll_cons_mk (shut_int Try.underlying3 w1) (trodAll_cons_mk (Below.trod laidOut (by kernel_rfl) (of_decide_eq_true (by kernel_rfl)) k2 bel lt2) trodAll_mk0))), rfl, bel.frame _, fun h => by cases h⟩
theorem over : Rows.fnExactPutItemsRow.holds Try.pinned (OpenSpec.ofChange Rows.fnExactPutItemsSpec) :=
  OpenClaim.holds_of_wide 9 Try.f9 rfl rfl rfl rfl rfl rfl rfl ⟨rfl, rfl, rfl, rfl, rfl⟩ rfl rfl rfl rfl rfl (by kernel_rfl) Try.func9 (by kernel_rfl)
    (of_decide_eq_true (by kernel_rfl)) (by unfold Func.isWrapper; first | (rw [if_pos (by decide +kernel)]; kernel_rfl) | (rw [if_neg (by decide +kernel)]; exact ⟨rfl, rfl⟩))
    (fun os started H enc _ => lifted os started H enc)
theorem proved : Rows.FnExactPutItemsSaid := over
#print axioms proved
end Go.Proofs.Ytkkiibjnpkjijaa.fnExactPutItems
namespace Go.Proofs.Ytkkiibjnpkjijaa
/-- The row, under a short name, for the claim. -/
theorem fnExactPutItems_holds : Rows.FnExactPutItemsSaid := fnExactPutItems.proved
end Go.Proofs.Ytkkiibjnpkjijaa
