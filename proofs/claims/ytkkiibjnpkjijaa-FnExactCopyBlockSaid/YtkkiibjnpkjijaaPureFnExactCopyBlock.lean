/-
The law FnExactCopyBlock holds of the printed plain functions, for all arguments that the printed bounds allow.
-/
import Derived.Test.YtkkiibjnpkjijaaQFnExactCopyBlockx1
import Derived.Test.YtkkiibjnpkjijaaQFnExactCopyBlockx2
import Derived.Test.YtkkiibjnpkjijaaQFnExactCopyBlockx3
import Derived.Test.YtkkiibjnpkjijaaQFnExactCopyBlockx4
import Derived.Test.YtkkiibjnpkjijaaTools
import Derived.Test.YtkkiibjnpkjijaaNums
import Derived.Test.YtkkiibjnpkjijaaLetters
import Derived.Test.YtkkiibjnpkjijaaHeads
import Derived.Test.YtkkiibjnpkjijaaStores
import Derived.Test.YtkkiibjnpkjijaaPuts
namespace Go.Proofs.Ytkkiibjnpkjijaa.Pure
open Go.RowKit Go.Proofs.Ytkkiibjnpkjijaa.QFnExactCopyBlock Go.Proofs.YtkkiibjnpkjijaaW.PrintWords Go.Proofs.YtkkiibjnpkjijaaW.PrintLast Go.Proofs.YtkkiibjnpkjijaaW.PrintMore Go.Proofs.Ytkkiibjnpkjijaa.Tools Go.Proofs.Ytkkiibjnpkjijaa.Plain
set_option linter.unusedVariables false

/-! ### laws_eqUint32S -/
theorem laws_eqUint32S_l0 (l : List Int) (hl : l.length ≤ 70368744177664) (d : Nat) : ∀ (i : Nat), i + d = l.length → Ev (fun k => laws_eqUint32S.l0 k l l (i : Int)) true := by
  induction d with
  | zero =>
    intro i hi
    refine Ev.step (fun k => by rw [laws_eqUint32S.l0]) ?_
    exact ev_neg (by omega) (ev_ret rfl)
  | succ d ih =>
    intro i hi
    refine Ev.step (fun k => by rw [laws_eqUint32S.l0]) ?_
    refine ev_pos (by omega) (ev_pos (by omega) (ev_pos (by omega) (ev_pos rfl ?_)))
    rw [w64 (by omega) (by omega), show ((i : Int) + 1) = ((i + 1 : Nat) : Int) by omega]
    exact ih (i + 1) (by omega)
theorem laws_eqUint32S_ev (l : List Int) (hl : l.length ≤ 70368744177664) : Ev (fun k => laws_eqUint32S.f k l l) true :=
  ev_pos rfl (laws_eqUint32S_l0 l hl l.length 0 (by omega))

/-! ### laws_eqStore -/
theorem laws_eqStore_ev (l : List Int) (hl : l.length ≤ 70368744177664) : Ev (fun k => laws_eqStore.f k l l) true :=
  ev_bind (laws_eqUint32S_ev l hl) (ev_pos rfl (ev_ret rfl))

/-! ### laws_markUint32S -/
theorem laws_markUint32S_l0 (n : Nat) (hn : n ≤ 70368744177664) (d : Nat) : ∀ (ys : List Int) (i : Nat) (m : Int), 1 ≤ m → m + d ≤ 9000000000000000000 → ys.length = n → i + d = n →
    Ev (fun k => laws_markUint32S.l0 k ys m (i : Int)) (m + d, ys.take i ++ marksU m d) := by
  induction d with
  | zero =>
    intro ys i m h1 h2 hy hi
    refine Ev.step (fun k => by rw [laws_markUint32S.l0]) ?_
    refine ev_neg (by omega) (ev_ret ?_)
    rw [List.take_of_length_le (by omega)]; simp [marksU]
  | succ d ih =>
    intro ys i m h1 h2 hy hi
    refine Ev.step (fun k => by rw [laws_markUint32S.l0]) ?_
    refine ev_pos (by omega) (ev_pos (by omega) ?_)
    rw [w64 (by omega) (by omega), w64 (by omega) (by omega), show ((i : Int) + 1) = ((i + 1 : Nat) : Int) by omega]
    refine ev_to (ih _ (i + 1) (m + 1) (by omega) (by omega) (by simp [hy]) (by omega)) ?_
    simp only [Int.toNat_natCast]
    rw [List.take_succ_eq_append_getElem (by simp; omega), List.take_set_of_le (by omega), List.append_assoc]
    simp [marksU]; omega
theorem laws_markUint32S_ev (l : List Int) (hl : l.length ≤ 70368744177664) (m : Int) (h1 : 1 ≤ m) (h2 : m ≤ 1000000000000000000) : Ev (fun k => laws_markUint32S.f k l m) (m + l.length, marksU m l.length) :=
  laws_markUint32S_l0 l.length hl l.length l 0 m h1 (by omega) rfl (by omega)

/-! ### laws_markStore -/
theorem laws_markStore_ev (l : List Int) (hl : l.length ≤ 70368744177664) (m : Int) (h1 : 1 ≤ m) (h2 : m ≤ 1000000000000000000) : Ev (fun k => laws_markStore.f k l m) (m + l.length, marksU m l.length) :=
  ev_bind (laws_markUint32S_ev l hl m h1 h2) (ev_ret rfl)

/-! ### laws_heldUint32S -/
theorem laws_heldUint32S_l0 (n : Nat) (hn : n ≤ 70368744177664) (d : Nat) : ∀ (ys : List Int) (i : Nat) (m : Int), 1 ≤ m → m + d ≤ 9000000000000000000 → ys.length = n → i + d = n → ys.drop i = marksU m d →
    Ev (fun k => laws_heldUint32S.l0 k ys m (i : Int)) (m + d) := by
  induction d with
  | zero =>
    intro ys i m h1 h2 hy hi ht
    refine Ev.step (fun k => by rw [laws_heldUint32S.l0]) ?_
    exact ev_neg (by omega) (ev_ret (by simp))
  | succ d ih =>
    intro ys i m h1 h2 hy hi ht
    rw [List.drop_eq_getElem_cons (by omega : i < ys.length), marksU] at ht
    injection ht with hx ht
    refine Ev.step (fun k => by rw [laws_heldUint32S.l0]) ?_
    refine ev_pos (by omega) (ev_pos (by omega) (ev_pos (by rw [rd_nat (by omega), hx]) ?_))
    rw [w64 (by omega) (by omega), w64 (by omega) (by omega), show ((i : Int) + 1) = ((i + 1 : Nat) : Int) by omega]
    exact ev_to (ih _ (i + 1) (m + 1) (by omega) (by omega) hy (by omega) ht) (by omega)
theorem laws_heldUint32S_ev (n : Nat) (hl : n ≤ 70368744177664) (m : Int) (h1 : 1 ≤ m) (h2 : m ≤ 1000000000000000000) : Ev (fun k => laws_heldUint32S.f k (marksU m n) m) (m + n) :=
  laws_heldUint32S_l0 n hl n _ 0 m h1 (by omega) (marksU_length n m) (by omega) rfl

/-! ### laws_heldStore -/
theorem laws_heldStore_ev (n : Nat) (hl : n ≤ 70368744177664) (m : Int) (h1 : 1 ≤ m) (h2 : m ≤ 1000000000000000000) : Ev (fun k => laws_heldStore.f k (marksU m n) m) (m + n) :=
  ev_bind (laws_heldUint32S_ev n hl m h1 h2) (ev_neg (by omega) (ev_ret rfl))

/-! ### laws_szUint32S -/
theorem laws_szUint32S_eq (l : List Int) (left : Int) (h0 : 0 ≤ left) (h1 : left ≤ 1048576) (hl : l.length ≤ maxLen) : laws_szUint32S.f l left = some (if (l.length : Int) ≤ left then left - l.length else -1) := by
  unfold laws_szUint32S.f
  unfold maxLen at hl
  rw [w64 (by omega) (by omega)]
  by_cases h : (l.length : Int) ≤ left
  · rw [if_pos h, if_neg (by omega)]
  · rw [if_neg h, if_pos (by omega)]

/-! ### laws_szStore -/
theorem laws_szStore_eq (l : List Int) (left : Int) (h0 : 0 ≤ left) (h1 : left ≤ 1048576) (hl : l.length ≤ maxLen) : laws_szStore.f l left = some (if (l.length : Int) ≤ left then left - l.length else -1) := by
  unfold laws_szStore.f
  rw [laws_szUint32S_eq l left h0 h1 hl]
  simp only [Option.bind_some]
  by_cases h : (l.length : Int) ≤ left
  · rw [if_pos h, if_neg (by omega)]
  · rw [if_neg h, if_pos (by omega)]

/-! ### spec_StoreOk -/
theorem spec_StoreOk_eq (l : List Int) : spec_StoreOk.f l = some (decide ((l.length : Int) % 64 = 0 ∧ (l.length : Int) ≤ 768)) := by
  unfold spec_StoreOk.f
  by_cases h : (l.length : Int) % 64 = 0
  · rw [if_pos h]; simp [h]
  · rw [if_neg h]; simp [h]

/-! ### spec_l05Has -/
theorem spec_l05Has_eq (l : List Int) (b : Int) (hl : l.length ≤ 1048576) : spec_l05Has.f l b = some (decide (hasBlock l b)) := by
  unfold spec_l05Has.f
  rw [spec_StoreOk_eq]
  simp only [Option.bind_some]
  rw [w64 (by omega) (by omega)]
  by_cases hh : hasBlock l b
  · rw [decide_eq_true hh]
    obtain ⟨h, h2, h3⟩ := hh
    rw [if_pos (decide_eq_true h), if_pos h2, decide_eq_true h3]
  · rw [decide_eq_false hh]
    by_cases h : (l.length : Int) % 64 = 0 ∧ (l.length : Int) ≤ 768
    · rw [if_pos (decide_eq_true h)]
      by_cases h2 : b ≥ 0
      · rw [if_pos h2, decide_eq_false (fun x => hh ⟨h, h2, x⟩)]
      · rw [if_neg h2]
    · rw [if_neg (by simpa using h)]

/-! ### spec_PutBlock -/
theorem spec_PutBlock_l0 (l cs : List Int) (b : Int) (hb : 0 ≤ b ∧ (b + 1) * 64 ≤ (l.length : Int) ∧ l.length ≤ 768) (hc : cs.length ≤ 64) (d : Nat) : ∀ i : Nat, i + d = 64 →
    Ev (fun k => spec_PutBlock.l0 k b cs (l.take (b * 64).toNat ++ ((fill cs).take i ++ l.drop ((b * 64).toNat + i))) (i : Int)) (putCells l (b * 64).toNat cs, true) := by
  have hv := fill_length hc
  induction d with
  | zero =>
    intro i hi
    have : i = 64 := by omega
    subst this
    refine Ev.step (fun k => by rw [spec_PutBlock.l0]) ?_
    refine ev_neg (by omega) (ev_ret ?_)
    rw [List.take_of_length_le (l := fill cs) (by omega)]
    rfl
  | succ d ih =>
    intro i hi
    have next := ih (i + 1) (by omega)
    have hlt : i < 64 := by omega
    have hlen : (l.take (b * 64).toNat ++ ((fill cs).take i ++ l.drop ((b * 64).toNat + i))).length = l.length := by
      rw [List.length_append, List.length_append, List.length_take, List.length_take, List.length_drop]; omega
    have ei : wrap64 ((wrap64 (b * 64)) + (i : Int)) = (((b * 64).toNat + i : Nat) : Int) := by rw [w64 (x := b * 64) (by omega) (by omega), w64 (by omega) (by omega)]; omega
    refine Ev.step (fun k => by rw [spec_PutBlock.l0]) ?_
    rw [ei, Int.toNat_natCast, hlen]
    clear ei
    rw [mid_set 0 hlt hv (by omega)]
    rw [List.take_succ_eq_append_getElem (by omega), fill_at hc hlt] at next
    refine ev_pos (by omega) (ev_pos (by omega) (ev_pos (by omega) (ev_some ?_)))
    rw [w64 (x := (i : Int) + 1) (by omega) (by omega), show ((i : Int) + 1) = ((i + 1 : Nat) : Int) by omega]
    by_cases hic : i < cs.length
    · rw [dif_pos hic] at next
      refine ev_pos (by omega) (ev_pos (by omega) ?_)
      rw [rd_nat hic, ← mid_set 0 hlt hv (by omega), List.set_set, mid_set cs[i] hlt hv (by omega)]
      exact next
    · rw [dif_neg hic] at next
      exact ev_neg (by omega) next
theorem spec_PutBlock_ev (l : List Int) (b : Int) (cs : List Int) (hl : l.length ≤ 1048576) : Ev (fun k => spec_PutBlock.f k l b cs) (putBlock l b cs) := by
  refine ev_bind (ev_eq (spec_l05Has_eq l b hl)) ?_
  have no : ¬ (hasBlock l b ∧ cs.length ≤ 64) → Ev (fun k => spec_PutBlock.j0 k b cs true l) (putBlock l b cs) := by
    intro h
    refine Ev.step (fun k => by rw [spec_PutBlock.j0]) ?_
    exact ev_pos rfl (ev_ret (if_neg h).symm)
  by_cases h : hasBlock l b
  · refine ev_pos (decide_eq_true h) ?_
    by_cases hc : cs.length ≤ 64
    · rw [decide_eq_false (by omega)]
      have e : putBlock l b cs = (putCells l (b * 64).toNat cs, true) := if_pos ⟨h, hc⟩
      have hb := hasBlock_room h
      have key := spec_PutBlock_l0 l cs b hb hc 64 0 rfl
      rw [List.take_zero, List.nil_append, Nat.add_zero, List.take_append_drop] at key
      rw [e]
      refine Ev.step (fun k => by rw [spec_PutBlock.j0]) ?_
      exact ev_neg (by simp) (ev_some (ev_pos (by simp only [List.length_nil]; omega) key))
    · rw [decide_eq_true (by omega)]
      exact no (fun g => hc g.2)
  · exact ev_neg (by simpa using h) (no (fun g => h g.1))

/-! ### spec_BlockOf -/
theorem spec_BlockOf_eq (l : List Int) (b : Int) (hl : l.length ≤ 1048576) : spec_BlockOf.f l b = some (blockOf l b) := by
  unfold spec_BlockOf.f
  rw [spec_l05Has_eq l b hl]
  simp only [Option.bind_some]
  by_cases h : hasBlock l b
  · have hc := blockAt_length h
    unfold blockOf blockAt at *
    rw [if_pos h, if_pos (decide_eq_true h)]
    obtain ⟨⟨h1, h2⟩, h3, h4⟩ := h
    rw [w64 (x := b * 64) (by omega) (by omega), w64 (x := b + 1) (by omega) (by omega), w64 (x := (b + 1) * 64) (by omega) (by omega)]
    rw [if_pos (by omega), if_pos (by omega), if_pos (by omega), if_pos (by rw [hc]; simp)]
    simp
  · unfold blockOf
    rw [if_neg h, if_neg (by simpa using h)]

/-! ### spec_CopyBlock -/
theorem spec_CopyBlock_ev (l : List Int) (a b : Int) (hl : l.length ≤ 1048576) : Ev (fun k => spec_CopyBlock.f k l a b) (copyBlock l a b) := by
  refine ev_bind (ev_eq (spec_BlockOf_eq l a hl)) ?_
  by_cases h : hasBlock l a
  · rw [show blockOf l a = (blockAt l a, true) from if_pos h, show copyBlock l a b = putBlock l b (blockAt l a) from if_pos h]
    exact ev_pos rfl (ev_bind (spec_PutBlock_ev l b _ hl) (ev_ret rfl))
  · rw [show blockOf l a = ([], false) from if_neg h, show copyBlock l a b = ([], false) from if_neg h]
    exact ev_neg (by simp) (ev_ret rfl)

/-! ### laws_toUint32S -/
theorem laws_toUint32S_l0 (l : List Int) (hl : l.length ≤ 70368744177664) (d : Nat) : ∀ (ys : List Int) (i : Nat), ys.length = l.length → i + d = l.length → ys.take i = l.take i →
    Ev (fun k => laws_toUint32S.l0 k l ys (i : Int)) l := by
  induction d with
  | zero =>
    intro ys i hy hi ht
    refine Ev.step (fun k => by rw [laws_toUint32S.l0]) ?_
    refine ev_neg (by omega) (ev_ret ?_)
    rw [List.take_of_length_le (by omega), List.take_of_length_le (by omega)] at ht
    exact ht
  | succ d ih =>
    intro ys i hy hi ht
    refine Ev.step (fun k => by rw [laws_toUint32S.l0]) ?_
    refine ev_pos (by omega) (ev_pos (by omega) (ev_pos (by omega) ?_))
    rw [w64 (by omega) (by omega), show ((i : Int) + 1) = ((i + 1 : Nat) : Int) by omega]
    refine ih _ (i + 1) (by simp [hy]) (by omega) ?_
    rw [rd_nat (by omega)]
    simp only [Int.toNat_natCast]
    rw [List.take_succ_eq_append_getElem (by simp; omega), List.take_succ_eq_append_getElem (by omega : i < l.length)]
    rw [List.take_set_of_le (by omega), ht]
    simp
theorem laws_toUint32S_ev (l : List Int) (hl : l.length ≤ 70368744177664) : Ev (fun k => laws_toUint32S.f k l) l := by
  unfold laws_toUint32S.f
  refine ev_pos (by omega) (ev_pos (by simp; omega) ?_)
  exact laws_toUint32S_l0 l hl l.length _ 0 (by simp) (by omega) (by simp)

/-! ### laws_toStore -/
theorem laws_toStore_ev (l : List Int) (hl : l.length ≤ 70368744177664) : Ev (fun k => laws_toStore.f k l) l :=
  ev_bind (laws_toUint32S_ev l hl) (ev_ret rfl)

/-! ### impl_StoreOk -/
theorem impl_StoreOk_eq (l : List Int) : impl_StoreOk.f l = some (decide ((l.length : Int) % 64 = 0 ∧ (l.length : Int) ≤ 768)) := by
  unfold impl_StoreOk.f
  by_cases h : (l.length : Int) % 64 = 0
  · rw [if_pos h]; simp [h]
  · rw [if_neg h]; simp [h]

/-! ### impl_within -/
theorem impl_within_eq (a b c : Int) : impl_within.f a b c = some (decide (b ≤ a ∧ a ≤ c)) := by
  unfold impl_within.f
  by_cases h : b ≤ a
  · rw [if_pos h]; simp [h]
  · rw [if_neg h]; simp [h]

/-! ### impl_hasBlocks -/
theorem impl_hasBlocks_eq (l : List Int) (b : Int) (hl : l.length ≤ 1048576) : impl_hasBlocks.f l [b] = some (decide (hasBlock l b)) := by
  unfold impl_hasBlocks.f
  simp only
  rw [impl_StoreOk_eq]
  simp only [Option.bind_some]
  rw [w64 (x := (l.length : Int) / 64) (by omega) (by omega), w64 (by omega) (by omega)]
  by_cases hh : hasBlock l b
  · rw [decide_eq_true hh]
    obtain ⟨h, h2, h3⟩ := hh
    rw [if_pos (decide_eq_true h), impl_within_eq, decide_eq_true (by omega)]
  · rw [decide_eq_false hh]
    by_cases h : (l.length : Int) % 64 = 0 ∧ (l.length : Int) ≤ 768
    · rw [if_pos (decide_eq_true h), impl_within_eq, decide_eq_false (fun x => hh ⟨h, x.1, by omega⟩)]
    · rw [if_neg (by simpa using h)]

/-! ### slices_Clone_uint32_uint32 -/
theorem slices_Clone_u32_eq (l : List Int) (hl : l.length ≤ 35184372088831) : slices_Clone_uint32_uint32.f l = some l := if_pos hl

/-! ### impl_PutBlock -/
theorem impl_PutBlock_eq (l : List Int) (b : Int) (cs : List Int) (hl : l.length ≤ 1048576) : impl_PutBlock.f l b cs = some (putBlock l b cs) := by
  unfold impl_PutBlock.f impl_PutBlock.g
  rw [impl_hasBlocks_eq l b hl]
  simp only [Option.bind_some]
  by_cases h : hasBlock l b
  · rw [if_pos (decide_eq_true h)]
    by_cases hc : cs.length ≤ 64
    · have hb := hasBlock_room h
      rw [if_neg (by omega), slices_Clone_u32_eq l (by omega)]
      simp only [Option.bind_some]
      rw [if_pos trivial, if_pos ⟨hb.1, hb.2.1, hl, hc⟩, show putBlock l b cs = (putCells l (b * 64).toNat cs, true) from if_pos ⟨h, hc⟩, putAt, put_splice hc (by omega)]
    · rw [if_pos (by omega)]
      simp only [Option.bind_some]
      rw [if_neg (by simp), show putBlock l b cs = ([], false) from if_neg (fun g => hc g.2)]
  · rw [if_neg (by simpa using h)]
    simp only [Option.bind_some]
    rw [if_neg (by simp), show putBlock l b cs = ([], false) from if_neg (fun g => h g.1)]

/-! ### impl_BlockOf -/
theorem impl_BlockOf_eq (l : List Int) (b : Int) (hl : l.length ≤ 1048576) : impl_BlockOf.f l b = some (blockOf l b) := by
  unfold impl_BlockOf.f
  rw [impl_hasBlocks_eq l b hl]
  simp only [Option.bind_some]
  by_cases h : hasBlock l b
  · have hc := blockAt_length h
    unfold blockOf blockAt at *
    rw [if_pos h, if_pos (decide_eq_true h)]
    obtain ⟨⟨h1, h2⟩, h3, h4⟩ := h
    rw [w64 (x := b * 64) (by omega) (by omega), w64 (x := b + 1) (by omega) (by omega), w64 (x := (b + 1) * 64) (by omega) (by omega)]
    rw [if_pos (by omega), if_pos (by omega), if_pos (by omega), slices_Clone_u32_eq _ (by rw [hc]; omega)]
    rfl
  · unfold blockOf
    rw [if_neg h, if_neg (by simpa using h)]

/-! ### impl_CopyBlock -/
theorem impl_CopyBlock_eq (l : List Int) (a b : Int) (hl : l.length ≤ 1048576) : impl_CopyBlock.f l a b = some (copyBlock l a b) := by
  unfold impl_CopyBlock.f
  rw [impl_BlockOf_eq l a hl]
  simp only [Option.bind_some]
  by_cases h : hasBlock l a
  · rw [show blockOf l a = (blockAt l a, true) from if_pos h, show copyBlock l a b = putBlock l b (blockAt l a) from if_pos h]
    simp only [if_true]
    rw [impl_PutBlock_eq l b _ hl]
    rfl
  · rw [show blockOf l a = ([], false) from if_neg h, show copyBlock l a b = ([], false) from if_neg h]
    simp

/-! ### FnExactCopyBlock -/
theorem FnExactCopyBlock : laws_FnExactCopyBlock.Pure := by
  intro l a b hl hz hw wa wb
  refine Ev.rounds (r := true) ?_
  refine ev_bind (ev_eq (laws_szStore_eq l 1048576 (by omega) (by omega) hl)) ?_
  by_cases h : (l.length : Int) ≤ 1048576
  · rw [if_pos h]
    have hb : l.length ≤ 70368744177664 := by omega
    have hc := copyBlock_length (l := l) (a := a) (b := b) (by omega)
    have e1 := spec_CopyBlock_ev l a b (by omega)
    have e2 := impl_CopyBlock_eq l a b (by omega)
    generalize copyBlock l a b = r at e1 e2 hc
    obtain ⟨t, ok⟩ := r
    simp only at hc
    have hcb : t.length ≤ 70368744177664 := by omega
    refine ev_neg (by omega) (ev_bind (laws_toStore_ev l hb) (ev_bind e1 (ev_bind (laws_toStore_ev l hb) (ev_bind (ev_eq e2) (ev_bind (laws_eqStore_ev t hcb) (ev_pos rfl ?_))))))
    refine Ev.step (fun k => by rw [laws_FnExactCopyBlock.j0]) ?_
    refine ev_neg (by simp) (ev_bind (laws_toStore_ev l hb) (ev_bind (laws_eqStore_ev l hb) (ev_pos rfl (ev_bind (laws_markStore_ev l hb 1 (by omega) (by omega)) (ev_neg (by simp only; omega) (ev_bind (laws_eqStore_ev t hcb) (ev_pos rfl ?_)))))))
    refine Ev.step (fun k => by rw [laws_FnExactCopyBlock.j1]) ?_
    refine ev_neg (by simp) (ev_bind (laws_markStore_ev t hcb 1 (by omega) (by omega)) (ev_bind (laws_heldStore_ev _ hcb 1 (by omega) (by omega)) (ev_neg (by omega) (ev_pos rfl ?_))))
    refine ev_bind (laws_toStore_ev l hb) (ev_bind (ev_eq e2) (ev_bind (laws_eqStore_ev t hcb) (ev_pos rfl ?_)))
    refine Ev.step (fun k => by rw [laws_FnExactCopyBlock.j2]) ?_
    exact ev_neg (by simp) (ev_bind (laws_heldStore_ev _ hcb 1 (by omega) (by omega)) (ev_neg (by omega) (ev_pos rfl (ev_ret rfl))))
  · rw [if_neg h]
    exact ev_pos (by omega) (ev_ret rfl)

end Go.Proofs.Ytkkiibjnpkjijaa.Pure
