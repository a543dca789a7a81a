/-
The law FnExactNewStore holds of the printed plain functions, for all arguments that the printed bounds allow.
-/
import Derived.Test.YtbgnhdnbgobeeaaPFnExactNewStorex1
import Derived.Test.YtbgnhdnbgobeeaaTools
import Derived.Test.YtbgnhdnbgobeeaaNums
namespace Go.Proofs.Ytbgnhdnbgobeeaa.Pure
open Go.RowKit Go.Proofs.Ytbgnhdnbgobeeaa.PFnExactNewStore Go.Proofs.YtbgnhdnbgobeeaaW.PrintWords Go.Proofs.YtbgnhdnbgobeeaaW.PrintLast Go.Proofs.YtbgnhdnbgobeeaaW.PrintMore Go.Proofs.Ytbgnhdnbgobeeaa.Tools Go.Proofs.Ytbgnhdnbgobeeaa.Plain
set_option linter.unusedVariables false

/-! ### laws_eqUint32S -/
theorem laws_eqUint32S_l0 (l : List Int) (hl : l.length ≤ 70368744177664) (d : Nat) : ∀ (i : Nat), i + d = l.length → Ev (fun k => laws_eqUint32S.l0 k l l (i : Int)) true := by
  induction d with
  | zero =>
    intro i hi
    exact Ev.step (fun k => by rw [laws_eqUint32S.l0]) (ev_neg (by omega) (ev_ret rfl))
  | succ d ih =>
    intro i hi
    refine Ev.step (fun k => by rw [laws_eqUint32S.l0]) (ev_pos (by omega) (ev_pos (by omega) (ev_pos (by omega) (ev_pos rfl ?_))))
    rw [w64 (by omega) (by omega), show ((i : Int) + 1) = ((i + 1 : Nat) : Int) by omega]
    exact ih (i + 1) (by omega)
theorem laws_eqUint32S_ev (l : List Int) (hl : l.length ≤ 70368744177664) : Ev (fun k => laws_eqUint32S.f k l l) true :=
  ev_pos rfl (laws_eqUint32S_l0 l hl l.length 0 (by omega))

/-! ### laws_eqStore -/
theorem laws_eqStore_ev (l : List Int) (hl : l.length ≤ 70368744177664) : Ev (fun k => laws_eqStore.f k l l) true :=
  ev_bind (laws_eqUint32S_ev l hl) (ev_pos rfl (ev_ret rfl))

/-! ### spec_l01In -/
theorem spec_l01In_eq (a b c : Int) : spec_l01In.f a b c = some (decide (b ≤ a ∧ a ≤ c)) := by
  unfold spec_l01In.f
  by_cases h : b ≤ a
  · rw [if_pos h]; simp [h]
  · rw [if_neg h]; simp [h]

/-! ### spec_NewStore -/
theorem spec_NewStore_eq (n : Int) : spec_NewStore.f n = some (newStore n) := by
  unfold spec_NewStore.f newStore
  simp only [spec_l01In_eq, Option.bind_some, decide_eq_true_eq]
  by_cases h : 0 ≤ n ∧ n ≤ 12
  · rw [if_pos h, if_pos h, w64 (by omega) (by omega), if_pos (by omega), if_pos (by omega)]
  · rw [if_neg h, if_neg h]

/-! ### impl_within -/
theorem impl_within_eq (a b c : Int) : impl_within.f a b c = some (decide (b ≤ a ∧ a ≤ c)) := by
  unfold impl_within.f
  by_cases h : b ≤ a
  · rw [if_pos h]; simp [h]
  · rw [if_neg h]; simp [h]

/-! ### impl_NewStore -/
theorem impl_NewStore_eq (n : Int) : impl_NewStore.f n = some (newStore n) := by
  unfold impl_NewStore.f newStore
  simp only [impl_within_eq, Option.bind_some, decide_eq_true_eq]
  by_cases h : 0 ≤ n ∧ n ≤ 12
  · rw [if_pos h, if_pos h, w64 (by omega) (by omega), if_pos (by omega), if_pos (by omega)]
  · rw [if_neg h, if_neg h]

/-! ### laws_markUint32S -/
theorem laws_markUint32S_l0 (n : Nat) (hn : n ≤ 70368744177664) (d : Nat) : ∀ (ys : List Int) (i : Nat) (m : Int), 1 ≤ m → m + d ≤ 9000000000000000000 → ys.length = n → i + d = n →
    Ev (fun k => laws_markUint32S.l0 k ys m (i : Int)) (m + d, ys.take i ++ marksU m d) := by
  induction d with
  | zero =>
    intro ys i m h1 h2 hy hi
    refine Ev.step (fun k => by rw [laws_markUint32S.l0]) (ev_neg (by omega) (ev_ret ?_))
    rw [List.take_of_length_le (by omega)]; simp [marksU]
  | succ d ih =>
    intro ys i m h1 h2 hy hi
    refine Ev.step (fun k => by rw [laws_markUint32S.l0]) (ev_pos (by omega) (ev_pos (by omega) ?_))
    rw [w64 (by omega) (by omega), w64 (by omega) (by omega), show ((i : Int) + 1) = ((i + 1 : Nat) : Int) by omega]
    refine ev_to (ih _ (i + 1) (m + 1) (by omega) (by omega) (by simp [hy]) (by omega)) ?_
    simp only [Int.toNat_natCast]
    rw [List.take_succ_eq_append_getElem (by simp; omega), List.take_set_of_le (by omega), List.append_assoc]
    simp [marksU]; omega
theorem laws_markUint32S_ev (l : List Int) (hl : l.length ≤ 70368744177664) (m : Int) (h1 : 1 ≤ m) (h2 : m ≤ 1000000000000000000) : Ev (fun k => laws_markUint32S.f k l m) (m + l.length, marksU m l.length) :=
  laws_markUint32S_l0 l.length hl l.length l 0 m h1 (by omega) rfl (by omega)

/-! ### laws_markStore -/
theorem laws_markStore_ev (l : List Int) (hl : l.length ≤ 70368744177664) (m : Int) (h1 : 1 ≤ m) (h2 : m ≤ 1000000000000000000) : Ev (fun k => laws_markStore.f k l m) (m + l.length, marksU m l.length) :=
  ev_bind (laws_markUint32S_ev l hl m h1 h2) (ev_ret rfl)

/-! ### laws_heldUint32S -/
theorem laws_heldUint32S_l0 (n : Nat) (hn : n ≤ 70368744177664) (d : Nat) : ∀ (ys : List Int) (i : Nat) (m : Int), 1 ≤ m → m + d ≤ 9000000000000000000 → ys.length = n → i + d = n → ys.drop i = marksU m d →
    Ev (fun k => laws_heldUint32S.l0 k ys m (i : Int)) (m + d) := by
  induction d with
  | zero =>
    intro ys i m h1 h2 hy hi ht
    exact Ev.step (fun k => by rw [laws_heldUint32S.l0]) (ev_neg (by omega) (ev_ret (by simp)))
  | succ d ih =>
    intro ys i m h1 h2 hy hi ht
    rw [List.drop_eq_getElem_cons (by omega : i < ys.length), marksU] at ht
    injection ht with hx ht
    refine Ev.step (fun k => by rw [laws_heldUint32S.l0]) (ev_pos (by omega) (ev_pos (by omega) (ev_pos (by rw [rd_nat (by omega), hx]) ?_)))
    rw [w64 (by omega) (by omega), w64 (by omega) (by omega), show ((i : Int) + 1) = ((i + 1 : Nat) : Int) by omega]
    exact ev_to (ih _ (i + 1) (m + 1) (by omega) (by omega) hy (by omega) ht) (by omega)
theorem laws_heldUint32S_ev (n : Nat) (hl : n ≤ 70368744177664) (m : Int) (h1 : 1 ≤ m) (h2 : m ≤ 1000000000000000000) : Ev (fun k => laws_heldUint32S.f k (marksU m n) m) (m + n) :=
  laws_heldUint32S_l0 n hl n _ 0 m h1 (by omega) (marksU_length n m) (by omega) rfl

/-! ### laws_heldStore -/
theorem laws_heldStore_ev (n : Nat) (hl : n ≤ 70368744177664) (m : Int) (h1 : 1 ≤ m) (h2 : m ≤ 1000000000000000000) : Ev (fun k => laws_heldStore.f k (marksU m n) m) (m + n) :=
  ev_bind (laws_heldUint32S_ev n hl m h1 h2) (ev_neg (by omega) (ev_ret rfl))

/-! ### FnExactNewStore -/
theorem FnExactNewStore : laws_FnExactNewStore.Pure := by
  intro n w
  have hb : (newStore n).length ≤ 70368744177664 := by have := newStore_length n; omega
  refine Ev.rounds (r := true) ?_
  refine ev_bind (ev_eq (spec_NewStore_eq n)) (ev_bind (ev_eq (impl_NewStore_eq n)) (ev_bind (laws_eqStore_ev _ hb) (ev_pos rfl ?_)))
  refine ev_bind (laws_markStore_ev _ hb 1 (by omega) (by omega)) (ev_bind (laws_heldStore_ev _ hb 1 (by omega) (by omega)) (ev_neg (by omega) (ev_pos rfl ?_)))
  refine ev_bind (ev_eq (impl_NewStore_eq n)) (ev_bind (laws_eqStore_ev _ hb) (ev_pos rfl ?_))
  exact ev_bind (laws_heldStore_ev _ hb 1 (by omega) (by omega)) (ev_neg (by omega) (ev_pos rfl (ev_ret rfl)))

end Go.Proofs.Ytbgnhdnbgobeeaa.Pure
