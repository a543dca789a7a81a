/-
The law FnExactDecText holds of the printed plain functions, for all arguments that the printed bounds allow.
-/
import Derived.Test.YtamdgigcngeanaaDoorQFnExactDecTextx1
import Derived.Test.YtamdgigcngeanaaDoorTools
import Derived.Test.YtamdgigcngeanaaDoorSpots
import Derived.Test.YtamdgigcngeanaaDoorDecs
namespace Go.Proofs.YtamdgigcngeanaaDoor.Pure
open Go.RowKit Go.Proofs.YtamdgigcngeanaaDoor.QFnExactDecText Go.Proofs.YtamdgigcngeanaaDoorW.PrintWords Go.Proofs.YtamdgigcngeanaaDoorW.PrintLast Go.Proofs.YtamdgigcngeanaaDoorW.PrintMore Go.Proofs.YtamdgigcngeanaaDoor.Tools Go.Proofs.YtamdgigcngeanaaDoor.Plain
set_option linter.unusedVariables false

/-! ### spec_DecText -/
theorem spec_DecText_l0 (x0 : Int) (n : Nat) : ∀ (m : Int) (acc : List UInt8), m.natAbs < 10 ^ n → acc.length + n ≤ 100 → -9223372036854775808 ≤ m → m ≤ 9223372036854775807 →
    Ev (fun k => spec_DecText.l0 k x0 (toB acc) m) (toB ((if x0 < 0 then [45] else []) ++ decL m.natAbs ++ acc)) := by
  have stop : ∀ acc : List UInt8, acc.length ≤ 100 → Ev (fun k => spec_DecText.l0 k x0 (toB acc) 0) (toB ((if x0 < 0 then [45] else []) ++ decL 0 ++ acc)) := by
    intro acc ha
    refine Ev.step (fun k => by rw [spec_DecText.l0]) ?_
    refine ev_pos rfl (ev_ite (fun h => ev_pos (by rw [toB_size]; omega) (ev_ret ?_)) (fun h => ev_ret ?_))
    · rw [if_pos h, show (⟨#[45]⟩ : ByteArray) = toB [45] from rfl, toB_append']; rfl
    · rw [if_neg h]; rfl
  induction n with
  | zero =>
    intro m acc hm ha h0 h1
    obtain rfl : m = 0 := by rw [Nat.pow_zero] at hm; omega
    exact stop acc (by omega)
  | succ n ih =>
    intro m acc hm ha h0 h1
    by_cases hz : m = 0
    · subst hz; exact stop acc (by omega)
    rw [Nat.pow_succ] at hm
    obtain ⟨u, hu⟩ : ∃ u, u = m.natAbs := ⟨_, rfl⟩
    have hd : u % 10 < 10 := Nat.mod_lt _ (by decide)
    have hcut := dec_cut (u % 10) hd
    have hgo : ∀ m' : Int, m'.natAbs = u / 10 → -9223372036854775808 ≤ m' → m' ≤ 9223372036854775807 → Ev (fun k => spec_DecText.l0 k x0 (toB (UInt8.ofNat (48 + u % 10) :: acc)) m') (toB ((if x0 < 0 then [45] else []) ++ decL m.natAbs ++ acc)) := by
      intro m' hm' g0 g1
      have e := ih m' (UInt8.ofNat (48 + u % 10) :: acc) (by rw [hm']; omega) (by rw [List.length_cons]; omega) g0 g1
      rw [hm'] at e
      rw [← hu, decL_step u (by omega)]
      refine ev_to e ?_
      simp only [List.append_assoc, List.singleton_append]
    refine Ev.step (fun k => by rw [spec_DecText.l0]) ?_
    refine ev_neg hz ?_
    rcases Int.natAbs_eq m with e | e
    · rw [← hu] at e
      rw [e, tmod_pos, tdiv_pos, w64 (x := ((u % 10 : Nat) : Int) + 1) (by omega) (by omega), show ((u % 10 : Nat) : Int) + 1 = ((u % 10 + 1 : Nat) : Int) by omega, Int.toNat_natCast, Int.toNat_natCast, hcut, toB_append', toB_size, toB_size, w64 (x := ((u / 10 : Nat) : Int)) (by omega) (by omega)]
      refine ev_neg (by omega) (ev_pos (by omega) (ev_pos (by omega) (ev_pos (by omega) (ev_pos (by rw [List.length_singleton]; omega) ?_))))
      rw [e] at hgo
      exact hgo _ (by omega) (by omega) (by omega)
    · rw [← hu] at e
      by_cases hm0 : u % 10 = 0
      · rw [e, tmod_neg, tdiv_neg, w64 (x := -((u % 10 : Nat) : Int) + 1) (by omega) (by omega), show -((u % 10 : Nat) : Int) + 1 = ((u % 10 + 1 : Nat) : Int) by omega, show -((u % 10 : Nat) : Int) = ((u % 10 : Nat) : Int) by omega, Int.toNat_natCast, Int.toNat_natCast, hcut, toB_append', toB_size, toB_size, w64 (x := -((u / 10 : Nat) : Int)) (by omega) (by omega)]
        refine ev_neg (by omega) (ev_pos (by omega) (ev_pos (by omega) (ev_pos (by omega) (ev_pos (by rw [List.length_singleton]; omega) ?_))))
        rw [e] at hgo
        exact hgo _ (by omega) (by omega) (by omega)
      · rw [e, tmod_neg, tdiv_neg, w64 (x := - -((u % 10 : Nat) : Int)) (by omega) (by omega), Int.neg_neg, w64 (x := ((u % 10 : Nat) : Int) + 1) (by omega) (by omega), show ((u % 10 : Nat) : Int) + 1 = ((u % 10 + 1 : Nat) : Int) by omega, Int.toNat_natCast, Int.toNat_natCast, hcut, toB_append', toB_size, toB_size, w64 (x := -((u / 10 : Nat) : Int)) (by omega) (by omega)]
        refine ev_pos (by omega) (ev_pos (by omega) (ev_pos (by omega) (ev_pos (by omega) (ev_pos (by rw [List.length_singleton]; omega) ?_))))
        rw [e] at hgo
        exact hgo _ (by omega) (by omega) (by omega)
theorem spec_DecText_ev (n : Int) (h0 : -9223372036854775808 ≤ n) (h1 : n ≤ 9223372036854775807) : Ev (fun k => spec_DecText.f k n) (toB (Lib.itoa n)) := by
  refine ev_ite (fun h => ev_ret ?_) (fun h => ?_)
  · subst h
    rw [show Lib.itoa 0 = Lib.decDigits 0 from Lib.itoa_nonneg 0, Lib.decDigits_one (by decide)]; rfl
  · refine ev_to (spec_DecText_l0 n 20 n [] (by omega) (by decide) h0 h1) ?_
    rw [itoa_decL n h, List.append_nil]

/-! ### impl_DecText -/
theorem impl_DecText_eq (n : Int) (h0 : -9223372036854775808 ≤ n) (h1 : n ≤ 9223372036854775807) : impl_DecText.f n = some (toB (Lib.itoa n)) := if_pos ⟨h0, h1⟩

/-! ### FnExactDecText -/
theorem FnExactDecText : laws_FnExactDecText.Pure := by
  intro n hw
  have hb := wf_i64 hw
  refine Ev.rounds (r := true) ?_
  exact ev_bind (spec_DecText_ev n hb.1 hb.2) (ev_bind (ev_eq (impl_DecText_eq n hb.1 hb.2)) (ev_pos rfl (ev_ret rfl)))

end Go.Proofs.YtamdgigcngeanaaDoor.Pure
