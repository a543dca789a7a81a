/-
The law FnExactSum holds of the printed plain functions, for all arguments that the printed bounds allow.
-/
import Derived.Test.YtbgnhdnbgobeeaaQFnExactSumx1
import Derived.Test.YtbgnhdnbgobeeaaTools
import Derived.Test.YtbgnhdnbgobeeaaNums
namespace Go.Proofs.Ytbgnhdnbgobeeaa.Pure
open Go.RowKit Go.Proofs.Ytbgnhdnbgobeeaa.QFnExactSum Go.Proofs.YtbgnhdnbgobeeaaW.PrintWords Go.Proofs.YtbgnhdnbgobeeaaW.PrintLast Go.Proofs.YtbgnhdnbgobeeaaW.PrintMore Go.Proofs.Ytbgnhdnbgobeeaa.Tools Go.Proofs.Ytbgnhdnbgobeeaa.Plain
set_option linter.unusedVariables false

/-! ### spec_Sum -/
theorem spec_Sum_l0 (l : List Int) (hl : l.length ≤ 70368744177664) (d : Nat) : ∀ (h : Int) (i : Nat), i + d = l.length → Ev (fun k => spec_Sum.l0 k l h (i : Int)) (sumFrom h (l.drop i)) := by
  induction d with
  | zero =>
    intro h i hi
    refine Ev.step (fun k => by rw [spec_Sum.l0]) ?_
    refine ev_neg (by omega) (ev_ret ?_)
    rw [List.drop_of_length_le (by omega)]; rfl
  | succ d ih =>
    intro h i hi
    refine Ev.step (fun k => by rw [spec_Sum.l0]) ?_
    refine ev_pos (by omega) (ev_pos (by omega) ?_)
    rw [w64 (by omega) (by omega), show ((i : Int) + 1) = ((i + 1 : Nat) : Int) by omega, rd_nat (by omega), List.drop_eq_getElem_cons (by omega : i < l.length)]
    exact ih _ (i + 1) (by omega)
theorem spec_Sum_ev (l : List Int) (hl : l.length ≤ 70368744177664) : Ev (fun k => spec_Sum.f k l) (sumOf l) := spec_Sum_l0 l hl l.length 2166136261 0 (by omega)

/-! ### laws_toUint32S -/
theorem laws_toUint32S_l0 (l : List Int) (hl : l.length ≤ 70368744177664) (d : Nat) : ∀ (ys : List Int) (i : Nat), ys.length = l.length → i + d = l.length → ys.take i = l.take i →
    Ev (fun k => laws_toUint32S.l0 k l ys (i : Int)) l := by
  induction d with
  | zero =>
    intro ys i hy hi ht
    refine Ev.step (fun k => by rw [laws_toUint32S.l0]) ?_
    refine ev_neg (by omega) (ev_ret ?_)
    rw [List.take_of_length_le (by omega), List.take_of_length_le (by omega)] at ht
    exact ht
  | succ d ih =>
    intro ys i hy hi ht
    refine Ev.step (fun k => by rw [laws_toUint32S.l0]) ?_
    refine ev_pos (by omega) (ev_pos (by omega) (ev_pos (by omega) ?_))
    rw [w64 (by omega) (by omega), show ((i : Int) + 1) = ((i + 1 : Nat) : Int) by omega]
    refine ih _ (i + 1) (by simp [hy]) (by omega) ?_
    rw [rd_nat (by omega)]
    simp only [Int.toNat_natCast]
    rw [List.take_succ_eq_append_getElem (by simp; omega), List.take_succ_eq_append_getElem (by omega : i < l.length)]
    rw [List.take_set_of_le (by omega), ht]
    simp
theorem laws_toUint32S_ev (l : List Int) (hl : l.length ≤ 70368744177664) : Ev (fun k => laws_toUint32S.f k l) l := by
  unfold laws_toUint32S.f
  refine ev_pos (by omega) (ev_pos (by simp; omega) ?_)
  exact laws_toUint32S_l0 l hl l.length _ 0 (by simp) (by omega) (by simp)

/-! ### impl_Sum -/
theorem impl_Sum_l0 (l : List Int) (hl : l.length ≤ 70368744177664) (d : Nat) : ∀ (h : Int) (i : Nat), i + d = l.length → Ev (fun k => impl_Sum.l0 k h l (l.length : Int) (i : Int)) (sumFrom h (l.drop i)) := by
  induction d with
  | zero =>
    intro h i hi
    refine Ev.step (fun k => by rw [impl_Sum.l0]) ?_
    refine ev_neg (by omega) (ev_ret ?_)
    rw [List.drop_of_length_le (by omega)]; rfl
  | succ d ih =>
    intro h i hi
    refine Ev.step (fun k => by rw [impl_Sum.l0]) ?_
    refine ev_pos (by omega) (ev_pos (by omega) (ev_pos (by omega) ?_))
    rw [w64 (by omega) (by omega), show ((i : Int) + 1) = ((i + 1 : Nat) : Int) by omega, rd_nat (by omega), List.drop_eq_getElem_cons (by omega : i < l.length)]
    exact ih _ (i + 1) (by omega)
theorem impl_Sum_ev (l : List Int) (hl : l.length ≤ 70368744177664) : Ev (fun k => impl_Sum.f k l) (sumOf l) := impl_Sum_l0 l hl l.length 2166136261 0 (by omega)

/-! ### laws_eqUint32S -/
theorem laws_eqUint32S_l0 (l : List Int) (hl : l.length ≤ 70368744177664) (d : Nat) : ∀ (i : Nat), i + d = l.length → Ev (fun k => laws_eqUint32S.l0 k l l (i : Int)) true := by
  induction d with
  | zero =>
    intro i hi
    refine Ev.step (fun k => by rw [laws_eqUint32S.l0]) ?_
    exact ev_neg (by omega) (ev_ret rfl)
  | succ d ih =>
    intro i hi
    refine Ev.step (fun k => by rw [laws_eqUint32S.l0]) ?_
    refine ev_pos (by omega) (ev_pos (by omega) (ev_pos (by omega) (ev_pos rfl ?_)))
    rw [w64 (by omega) (by omega), show ((i : Int) + 1) = ((i + 1 : Nat) : Int) by omega]
    exact ih (i + 1) (by omega)
theorem laws_eqUint32S_ev (l : List Int) (hl : l.length ≤ 70368744177664) : Ev (fun k => laws_eqUint32S.f k l l) true :=
  ev_pos rfl (laws_eqUint32S_l0 l hl l.length 0 (by omega))

/-! ### FnExactSum -/
theorem FnExactSum : laws_FnExactSum.Pure := by
  intro l hl hz hw
  refine Ev.rounds (r := true) ?_
  refine ev_ite (fun _ => ev_ret rfl) (fun hs => ?_)
  have hb : l.length ≤ 70368744177664 := by omega
  refine ev_bind (laws_toUint32S_ev l hb) (ev_bind (spec_Sum_ev l hb) (ev_bind (laws_toUint32S_ev l hb) (ev_bind (impl_Sum_ev l hb) (ev_pos rfl ?_))))
  exact ev_bind (laws_toUint32S_ev l hb) (ev_bind (laws_eqUint32S_ev l hb) (ev_pos rfl (ev_ret rfl)))

end Go.Proofs.Ytbgnhdnbgobeeaa.Pure
