/-
The law FnExactImageOf holds of the printed plain functions, for all arguments that the printed bounds allow.
-/
import Derived.Test.YtmdjagnbbddnhaaQFnExactImageOfx1
import Derived.Test.YtmdjagnbbddnhaaQFnExactImageOfx2
import Derived.Test.YtmdjagnbbddnhaaQFnExactImageOfx3
import Derived.Test.YtmdjagnbbddnhaaTools
import Derived.Test.YtmdjagnbbddnhaaNums
import Derived.Test.YtmdjagnbbddnhaaLetters
import Derived.Test.YtmdjagnbbddnhaaHeads
import Derived.Test.YtmdjagnbbddnhaaStores
namespace Go.Proofs.Ytmdjagnbbddnhaa.Pure
open Go.RowKit Go.Proofs.Ytmdjagnbbddnhaa.QFnExactImageOf Go.Proofs.YtmdjagnbbddnhaaW.PrintWords Go.Proofs.YtmdjagnbbddnhaaW.PrintLast Go.Proofs.YtmdjagnbbddnhaaW.PrintMore Go.Proofs.Ytmdjagnbbddnhaa.Tools Go.Proofs.Ytmdjagnbbddnhaa.Plain
set_option linter.unusedVariables false

/-! ### laws_szUint32S -/
theorem laws_szUint32S_eq (l : List Int) (left : Int) (h0 : 0 ≤ left) (h1 : left ≤ 1048576) (hl : l.length ≤ maxLen) : laws_szUint32S.f l left = some (if (l.length : Int) ≤ left then left - l.length else -1) := by
  unfold laws_szUint32S.f
  unfold maxLen at hl
  rw [w64 (by omega) (by omega)]
  by_cases h : (l.length : Int) ≤ left
  · rw [if_pos h, if_neg (by omega)]
  · rw [if_neg h, if_pos (by omega)]

/-! ### laws_szStore -/
theorem laws_szStore_eq (l : List Int) (left : Int) (h0 : 0 ≤ left) (h1 : left ≤ 1048576) (hl : l.length ≤ maxLen) : laws_szStore.f l left = some (if (l.length : Int) ≤ left then left - l.length else -1) := by
  unfold laws_szStore.f
  rw [laws_szUint32S_eq l left h0 h1 hl]
  simp only [Option.bind_some]
  by_cases h : (l.length : Int) ≤ left
  · rw [if_pos h, if_neg (by omega)]
  · rw [if_neg h, if_pos (by omega)]

/-! ### laws_toUint32S -/
theorem laws_toUint32S_l0 (l : List Int) (hl : l.length ≤ 70368744177664) (d : Nat) : ∀ (ys : List Int) (i : Nat), ys.length = l.length → i + d = l.length → ys.take i = l.take i →
    Ev (fun k => laws_toUint32S.l0 k l ys (i : Int)) l := by
  induction d with
  | zero =>
    intro ys i hy hi ht
    refine Ev.step (fun k => by rw [laws_toUint32S.l0]) ?_
    refine ev_neg (by omega) (ev_ret ?_)
    rw [List.take_of_length_le (by omega), List.take_of_length_le (by omega)] at ht
    exact ht
  | succ d ih =>
    intro ys i hy hi ht
    refine Ev.step (fun k => by rw [laws_toUint32S.l0]) ?_
    refine ev_pos (by omega) (ev_pos (by omega) (ev_pos (by omega) ?_))
    rw [w64 (by omega) (by omega), show ((i : Int) + 1) = ((i + 1 : Nat) : Int) by omega]
    refine ih _ (i + 1) (by simp [hy]) (by omega) ?_
    rw [rd_nat (by omega)]
    simp only [Int.toNat_natCast]
    rw [List.take_succ_eq_append_getElem (by simp; omega), List.take_succ_eq_append_getElem (by omega : i < l.length)]
    rw [List.take_set_of_le (by omega), ht]
    simp
theorem laws_toUint32S_ev (l : List Int) (hl : l.length ≤ 70368744177664) : Ev (fun k => laws_toUint32S.f k l) l := by
  unfold laws_toUint32S.f
  refine ev_pos (by omega) (ev_pos (by simp; omega) ?_)
  exact laws_toUint32S_l0 l hl l.length _ 0 (by simp) (by omega) (by simp)

/-! ### laws_toStore -/
theorem laws_toStore_ev (l : List Int) (hl : l.length ≤ 70368744177664) : Ev (fun k => laws_toStore.f k l) l :=
  ev_bind (laws_toUint32S_ev l hl) (ev_ret rfl)

/-! ### laws_eqUint32S -/
theorem laws_eqUint32S_l0 (l : List Int) (hl : l.length ≤ 70368744177664) (d : Nat) : ∀ (i : Nat), i + d = l.length → Ev (fun k => laws_eqUint32S.l0 k l l (i : Int)) true := by
  induction d with
  | zero =>
    intro i hi
    refine Ev.step (fun k => by rw [laws_eqUint32S.l0]) ?_
    exact ev_neg (by omega) (ev_ret rfl)
  | succ d ih =>
    intro i hi
    refine Ev.step (fun k => by rw [laws_eqUint32S.l0]) ?_
    refine ev_pos (by omega) (ev_pos (by omega) (ev_pos (by omega) (ev_pos rfl ?_)))
    rw [w64 (by omega) (by omega), show ((i : Int) + 1) = ((i + 1 : Nat) : Int) by omega]
    exact ih (i + 1) (by omega)
theorem laws_eqUint32S_ev (l : List Int) (hl : l.length ≤ 70368744177664) : Ev (fun k => laws_eqUint32S.f k l l) true :=
  ev_pos rfl (laws_eqUint32S_l0 l hl l.length 0 (by omega))

/-! ### laws_eqStore -/
theorem laws_eqStore_ev (l : List Int) (hl : l.length ≤ 70368744177664) : Ev (fun k => laws_eqStore.f k l l) true :=
  ev_bind (laws_eqUint32S_ev l hl) (ev_pos rfl (ev_ret rfl))

/-! ### laws_markUint32S -/
theorem laws_markUint32S_l0 (n : Nat) (hn : n ≤ 70368744177664) (d : Nat) : ∀ (ys : List Int) (i : Nat) (m : Int), 1 ≤ m → m + d ≤ 9000000000000000000 → ys.length = n → i + d = n →
    Ev (fun k => laws_markUint32S.l0 k ys m (i : Int)) (m + d, ys.take i ++ marksU m d) := by
  induction d with
  | zero =>
    intro ys i m h1 h2 hy hi
    refine Ev.step (fun k => by rw [laws_markUint32S.l0]) ?_
    refine ev_neg (by omega) (ev_ret ?_)
    rw [List.take_of_length_le (by omega)]; simp [marksU]
  | succ d ih =>
    intro ys i m h1 h2 hy hi
    refine Ev.step (fun k => by rw [laws_markUint32S.l0]) ?_
    refine ev_pos (by omega) (ev_pos (by omega) ?_)
    rw [w64 (by omega) (by omega), w64 (by omega) (by omega), show ((i : Int) + 1) = ((i + 1 : Nat) : Int) by omega]
    refine ev_to (ih _ (i + 1) (m + 1) (by omega) (by omega) (by simp [hy]) (by omega)) ?_
    simp only [Int.toNat_natCast]
    rw [List.take_succ_eq_append_getElem (by simp; omega), List.take_set_of_le (by omega), List.append_assoc]
    simp [marksU]; omega
theorem laws_markUint32S_ev (l : List Int) (hl : l.length ≤ 70368744177664) (m : Int) (h1 : 1 ≤ m) (h2 : m ≤ 1000000000000000000) : Ev (fun k => laws_markUint32S.f k l m) (m + l.length, marksU m l.length) :=
  laws_markUint32S_l0 l.length hl l.length l 0 m h1 (by omega) rfl (by omega)

/-! ### laws_markStore -/
theorem laws_markStore_ev (l : List Int) (hl : l.length ≤ 70368744177664) (m : Int) (h1 : 1 ≤ m) (h2 : m ≤ 1000000000000000000) : Ev (fun k => laws_markStore.f k l m) (m + l.length, marksU m l.length) :=
  ev_bind (laws_markUint32S_ev l hl m h1 h2) (ev_ret rfl)

/-! ### laws_eqByteS -/
theorem laws_eqByteS_l0 (l : List Int) (hl : l.length ≤ 70368744177664) (d : Nat) : ∀ (i : Nat), i + d = l.length → Ev (fun k => laws_eqByteS.l0 k l l (i : Int)) true := by
  induction d with
  | zero =>
    intro i hi
    refine Ev.step (fun k => by rw [laws_eqByteS.l0]) ?_
    exact ev_neg (by omega) (ev_ret rfl)
  | succ d ih =>
    intro i hi
    refine Ev.step (fun k => by rw [laws_eqByteS.l0]) ?_
    refine ev_pos (by omega) (ev_pos (by omega) (ev_pos (by omega) (ev_pos rfl ?_)))
    rw [w64 (by omega) (by omega), show ((i : Int) + 1) = ((i + 1 : Nat) : Int) by omega]
    exact ih (i + 1) (by omega)
theorem laws_eqByteS_ev (l : List Int) (hl : l.length ≤ 70368744177664) : Ev (fun k => laws_eqByteS.f k l l) true :=
  ev_pos rfl (laws_eqByteS_l0 l hl l.length 0 (by omega))

/-! ### laws_markByteS -/
theorem laws_markByteS_l0 (n : Nat) (hn : n ≤ 70368744177664) (d : Nat) : ∀ (ys : List Int) (i : Nat) (m : Int), 1 ≤ m → m + d ≤ 9000000000000000000 → ys.length = n → i + d = n →
    Ev (fun k => laws_markByteS.l0 k ys m (i : Int)) (m + d, ys.take i ++ marksB m d) := by
  induction d with
  | zero =>
    intro ys i m h1 h2 hy hi
    refine Ev.step (fun k => by rw [laws_markByteS.l0]) ?_
    refine ev_neg (by omega) (ev_ret ?_)
    rw [List.take_of_length_le (by omega)]; simp [marksB]
  | succ d ih =>
    intro ys i m h1 h2 hy hi
    refine Ev.step (fun k => by rw [laws_markByteS.l0]) ?_
    refine ev_pos (by omega) (ev_pos (by omega) ?_)
    rw [w64 (by omega) (by omega), w64 (by omega) (by omega), show ((i : Int) + 1) = ((i + 1 : Nat) : Int) by omega]
    refine ev_to (ih _ (i + 1) (m + 1) (by omega) (by omega) (by simp [hy]) (by omega)) ?_
    simp only [Int.toNat_natCast]
    rw [List.take_succ_eq_append_getElem (by simp; omega), List.take_set_of_le (by omega), List.append_assoc]
    simp [marksB]; omega
theorem laws_markByteS_ev (l : List Int) (hl : l.length ≤ 70368744177664) (m : Int) (h1 : 1 ≤ m) (h2 : m ≤ 1000000000000000000) : Ev (fun k => laws_markByteS.f k l m) (m + l.length, marksB m l.length) :=
  laws_markByteS_l0 l.length hl l.length l 0 m h1 (by omega) rfl (by omega)

/-! ### spec_Sum -/
theorem spec_Sum_l0 (l : List Int) (hl : l.length ≤ 70368744177664) (d : Nat) : ∀ (h : Int) (i : Nat), i + d = l.length → Ev (fun k => spec_Sum.l0 k l h (i : Int)) (sumFrom h (l.drop i)) := by
  induction d with
  | zero =>
    intro h i hi
    refine Ev.step (fun k => by rw [spec_Sum.l0]) ?_
    refine ev_neg (by omega) (ev_ret ?_)
    rw [List.drop_of_length_le (by omega)]; rfl
  | succ d ih =>
    intro h i hi
    refine Ev.step (fun k => by rw [spec_Sum.l0]) ?_
    refine ev_pos (by omega) (ev_pos (by omega) ?_)
    rw [w64 (by omega) (by omega), show ((i : Int) + 1) = ((i + 1 : Nat) : Int) by omega, rd_nat (by omega), List.drop_eq_getElem_cons (by omega : i < l.length)]
    exact ih _ (i + 1) (by omega)
theorem spec_Sum_ev (l : List Int) (hl : l.length ≤ 70368744177664) : Ev (fun k => spec_Sum.f k l) (sumOf l) := spec_Sum_l0 l hl l.length 2166136261 0 (by omega)

/-! ### spec_StoreOk -/
theorem spec_StoreOk_eq (l : List Int) : spec_StoreOk.f l = some (decide ((l.length : Int) % 64 = 0 ∧ (l.length : Int) ≤ 768)) := by
  unfold spec_StoreOk.f
  by_cases h : (l.length : Int) % 64 = 0
  · rw [if_pos h]; simp [h]
  · rw [if_neg h]; simp [h]

/-! ### spec_l05Four -/
theorem spec_l05Four_eq (c : Int) (hc : 0 ≤ c ∧ c ≤ 4294967295) : spec_l05Four.f c = some (four c) := by
  unfold spec_l05Four.f four
  have e : ∀ x : Int, 0 ≤ x ∧ x ≤ 4294967295 → Go.bits .and .u32 x 255 = x % 256 := fun x hx => and_u32 (i := 8) hx (by omega)
  rw [e c hc, e (c / 256) (by omega), e (c / 65536) (by omega)]
  congr 2 <;> simp

/-! ### spec_ImageOf -/
theorem spec_ImageOf_l0 (l : List Int) (hl : l.length ≤ 768) (hr : ∀ x ∈ l, 0 ≤ x ∧ x ≤ 4294967295) (d : Nat) : ∀ (i : Nat) (out : List Int), i + d = l.length → out.length ≤ 1 + 4 * i →
    Ev (fun k => spec_ImageOf.l0 k out (i : Int) l) (out ++ bytesFrom (l.drop i ++ [sumOf l])) := by
  induction d with
  | zero =>
    intro i out hi ho
    refine Ev.step (fun k => by rw [spec_ImageOf.l0]) ?_
    have hlen : (four (sumOf l)).length = 4 := rfl
    refine ev_neg (by omega) (ev_bind (spec_Sum_ev l (by omega)) (ev_bind (ev_eq (spec_l05Four_eq _ (sumOf_range l))) (ev_pos (by omega) (ev_ret ?_))))
    rw [List.drop_of_length_le (by omega)]
    simp [bytesFrom]
  | succ d ih =>
    intro i out hi ho
    have hlt : i < l.length := by omega
    have hlen : (four l[i]).length = 4 := rfl
    refine Ev.step (fun k => by rw [spec_ImageOf.l0]) ?_
    refine ev_pos (by omega) (ev_pos (by omega) (ev_bind (ev_eq (by rw [rd_nat hlt]; exact spec_l05Four_eq _ (hr _ (List.getElem_mem _)))) (ev_pos (by omega) ?_)))
    rw [w64 (by omega) (by omega), show ((i : Int) + 1) = ((i + 1 : Nat) : Int) by omega]
    refine ev_to (ih (i + 1) _ (by omega) (by rw [List.length_append, hlen]; omega)) ?_
    rw [List.drop_eq_getElem_cons hlt, List.cons_append, bytesFrom, List.append_assoc]
theorem spec_ImageOf_ev (l : List Int) (hr : ∀ x ∈ l, 0 ≤ x ∧ x ≤ 4294967295) : Ev (fun k => spec_ImageOf.f k l) (imageOf l) := by
  refine ev_bind (ev_eq (spec_StoreOk_eq l)) ?_
  by_cases h : (l.length : Int) % 64 = 0 ∧ (l.length : Int) ≤ 768
  · refine ev_pos (decide_eq_true h) ?_
    have e : imageOf l = [(l.length : Int) / 64 % 256] ++ bytesFrom (l ++ [sumOf l]) := if_pos h
    rw [e, w64 (by omega) (by omega)]
    exact spec_ImageOf_l0 l (by omega) hr l.length 0 _ (Nat.zero_add _) (by simp)
  · exact ev_neg (by simpa using h) (ev_ret (if_neg h).symm)

/-! ### slices_Clone_uint32_uint32 -/
theorem slices_Clone_u32_eq (l : List Int) (hl : l.length ≤ 35184372088831) : slices_Clone_uint32_uint32.f l = some l := if_pos hl

/-! ### impl_Sum -/
theorem impl_Sum_l0 (l : List Int) (hl : l.length ≤ 70368744177664) (d : Nat) : ∀ (h : Int) (i : Nat), i + d = l.length → Ev (fun k => impl_Sum.l0 k h l (l.length : Int) (i : Int)) (sumFrom h (l.drop i)) := by
  induction d with
  | zero =>
    intro h i hi
    refine Ev.step (fun k => by rw [impl_Sum.l0]) ?_
    refine ev_neg (by omega) (ev_ret ?_)
    rw [List.drop_of_length_le (by omega)]; rfl
  | succ d ih =>
    intro h i hi
    refine Ev.step (fun k => by rw [impl_Sum.l0]) ?_
    refine ev_pos (by omega) (ev_pos (by omega) (ev_pos (by omega) ?_))
    rw [w64 (by omega) (by omega), show ((i : Int) + 1) = ((i + 1 : Nat) : Int) by omega, rd_nat (by omega), List.drop_eq_getElem_cons (by omega : i < l.length)]
    exact ih _ (i + 1) (by omega)
theorem impl_Sum_ev (l : List Int) (hl : l.length ≤ 70368744177664) : Ev (fun k => impl_Sum.f k l) (sumOf l) := impl_Sum_l0 l hl l.length 2166136261 0 (by omega)

/-! ### impl_StoreOk -/
theorem impl_StoreOk_eq (l : List Int) : impl_StoreOk.f l = some (decide ((l.length : Int) % 64 = 0 ∧ (l.length : Int) ≤ 768)) := by
  unfold impl_StoreOk.f
  by_cases h : (l.length : Int) % 64 = 0
  · rw [if_pos h]; simp [h]
  · rw [if_neg h]; simp [h]

/-! ### impl_ImageOf -/
theorem impl_ImageOf_l0 (l : List Int) (hl : l.length ≤ 769) (d : Nat) : ∀ (i : Nat) (out : List Int), i + d = l.length → out.length ≤ 1 + 4 * i →
    Ev (fun k => impl_ImageOf.l0 k out l (l.length : Int) (i : Int)) (out ++ bytesFrom (l.drop i)) := by
  induction d with
  | zero =>
    intro i out hi ho
    refine Ev.step (fun k => by rw [impl_ImageOf.l0]) ?_
    refine ev_neg (by omega) (ev_ret ?_)
    rw [List.drop_of_length_le (by omega)]
    simp [bytesFrom]
  | succ d ih =>
    intro i out hi ho
    have hlt : i < l.length := by omega
    refine Ev.step (fun k => by rw [impl_ImageOf.l0]) ?_
    refine ev_pos (by omega) (ev_pos (by omega) (ev_pos (by omega) (ev_some (ev_pos (by simp only [List.length_cons, List.length_nil]; omega) ?_))))
    rw [rd_nat hlt, w64 (by omega) (by omega), show ((i : Int) + 1) = ((i + 1 : Nat) : Int) by omega]
    refine ev_to (ih (i + 1) _ (by omega) (by simp only [List.length_append, List.length_cons, List.length_nil]; omega)) ?_
    rw [List.drop_eq_getElem_cons hlt, bytesFrom, List.append_assoc]
    rfl
theorem impl_ImageOf_ev (l : List Int) : Ev (fun k => impl_ImageOf.f k l) (imageOf l) := by
  refine ev_bind (ev_eq (impl_StoreOk_eq l)) ?_
  by_cases h : (l.length : Int) % 64 = 0 ∧ (l.length : Int) ≤ 768
  · refine ev_pos (decide_eq_true h) (ev_bind (ev_eq (slices_Clone_u32_eq l (by omega))) (ev_bind (impl_Sum_ev l (by omega)) (ev_pos (by omega) (ev_some ?_))))
    have e : imageOf l = [(l.length : Int) / 64 % 256] ++ bytesFrom (l ++ [sumOf l]) := if_pos h
    rw [e, w64 (by omega) (by omega)]
    exact impl_ImageOf_l0 (l ++ [sumOf l]) (by simp; omega) (l ++ [sumOf l]).length 0 _ (Nat.zero_add _) (by simp)
  · exact ev_neg (by simpa using h) (ev_ret (if_neg h).symm)

/-! ### laws_heldByteS -/
theorem laws_heldByteS_l0 (n : Nat) (hn : n ≤ 70368744177664) (d : Nat) : ∀ (ys : List Int) (i : Nat) (m : Int), 1 ≤ m → m + d ≤ 9000000000000000000 → ys.length = n → i + d = n → ys.drop i = marksB m d →
    Ev (fun k => laws_heldByteS.l0 k ys m (i : Int)) (m + d) := by
  induction d with
  | zero =>
    intro ys i m h1 h2 hy hi ht
    refine Ev.step (fun k => by rw [laws_heldByteS.l0]) ?_
    exact ev_neg (by omega) (ev_ret (by simp))
  | succ d ih =>
    intro ys i m h1 h2 hy hi ht
    rw [List.drop_eq_getElem_cons (by omega : i < ys.length), marksB] at ht
    injection ht with hx ht
    refine Ev.step (fun k => by rw [laws_heldByteS.l0]) ?_
    refine ev_pos (by omega) (ev_pos (by omega) (ev_pos (by rw [rd_nat (by omega), hx]) ?_))
    rw [w64 (by omega) (by omega), w64 (by omega) (by omega), show ((i : Int) + 1) = ((i + 1 : Nat) : Int) by omega]
    exact ev_to (ih _ (i + 1) (m + 1) (by omega) (by omega) hy (by omega) ht) (by omega)
theorem laws_heldByteS_ev (n : Nat) (hl : n ≤ 70368744177664) (m : Int) (h1 : 1 ≤ m) (h2 : m ≤ 1000000000000000000) : Ev (fun k => laws_heldByteS.f k (marksB m n) m) (m + n) :=
  laws_heldByteS_l0 n hl n _ 0 m h1 (by omega) (marksB_length n m) (by omega) rfl

/-! ### FnExactImageOf -/
theorem FnExactImageOf : laws_FnExactImageOf.Pure := by
  intro l hl hz hw
  have hr : ∀ x ∈ l, 0 ≤ x ∧ x ≤ 4294967295 := fun x hx => wf_u32 (hw x hx)
  refine Ev.rounds (r := true) ?_
  refine ev_bind (ev_eq (laws_szStore_eq l 1048576 (by omega) (by omega) hl)) ?_
  by_cases h : (l.length : Int) ≤ 1048576
  · rw [if_pos h]
    have hb : l.length ≤ 70368744177664 := by omega
    have hc := imageOf_length l
    have e1 := spec_ImageOf_ev l hr
    have e2 := impl_ImageOf_ev l
    generalize imageOf l = cs at e1 e2 hc
    have hcb : cs.length ≤ 70368744177664 := by omega
    refine ev_neg (by omega) (ev_bind (laws_toStore_ev l hb) (ev_bind e1 (ev_bind (laws_toStore_ev l hb) (ev_bind e2 (ev_bind (laws_eqByteS_ev _ hcb) (ev_pos rfl ?_))))))
    refine ev_bind (laws_toStore_ev l hb) (ev_bind (laws_eqStore_ev l hb) (ev_pos rfl (ev_bind (laws_markStore_ev l hb 1 (by omega) (by omega)) (ev_neg (by simp only; omega) (ev_bind (laws_eqByteS_ev _ hcb) ?_)))))
    refine Ev.step (fun k => by rw [laws_FnExactImageOf.j0]) ?_
    refine ev_neg (by simp) (ev_bind (laws_markByteS_ev _ hcb 1 (by omega) (by omega)) (ev_bind (laws_heldByteS_ev _ hcb 1 (by omega) (by omega)) (ev_neg (by omega) (ev_pos rfl ?_))))
    refine ev_bind (laws_toStore_ev l hb) (ev_bind e2 (ev_bind (laws_eqByteS_ev _ hcb) (ev_pos rfl ?_)))
    exact ev_bind (laws_heldByteS_ev _ hcb 1 (by omega) (by omega)) (ev_neg (by omega) (ev_pos rfl (ev_ret rfl)))
  · rw [if_neg h]
    exact ev_pos (by omega) (ev_ret rfl)

end Go.Proofs.Ytmdjagnbbddnhaa.Pure
