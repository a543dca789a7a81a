/-
The law FnExactPutItems holds of the printed plain functions, for all arguments that the printed bounds allow.
-/
import Derived.Test.YtkkiibjnpkjijaaQFnExactPutItemsx1
import Derived.Test.YtkkiibjnpkjijaaQFnExactPutItemsx2
import Derived.Test.YtkkiibjnpkjijaaQFnExactPutItemsx3
import Derived.Test.YtkkiibjnpkjijaaQFnExactPutItemsx4
import Derived.Test.YtkkiibjnpkjijaaQFnExactPutItemsx5
import Derived.Test.YtkkiibjnpkjijaaQFnExactPutItemsx6
import Derived.Test.YtkkiibjnpkjijaaQFnExactPutItemsx7
import Derived.Test.YtkkiibjnpkjijaaQFnExactPutItemsx8
import Derived.Test.YtkkiibjnpkjijaaQFnExactPutItemsx9
import Derived.Test.YtkkiibjnpkjijaaQFnExactPutItemsx10
import Derived.Test.YtkkiibjnpkjijaaTools
import Derived.Test.YtkkiibjnpkjijaaLetters
import Derived.Test.YtkkiibjnpkjijaaHeads
import Derived.Test.YtkkiibjnpkjijaaSpots
import Derived.Test.YtkkiibjnpkjijaaNames
import Derived.Test.YtkkiibjnpkjijaaItems
import Derived.Test.YtkkiibjnpkjijaaRound
import Derived.Test.YtkkiibjnpkjijaaDraws
import Derived.Test.YtkkiibjnpkjijaaCells
import Derived.Test.YtkkiibjnpkjijaaNums
import Derived.Test.YtkkiibjnpkjijaaStores
import Derived.Test.YtkkiibjnpkjijaaPuts
namespace Go.Proofs.Ytkkiibjnpkjijaa.Pure
open Go.RowKit Go.Proofs.Ytkkiibjnpkjijaa.QFnExactPutItems Go.Proofs.YtkkiibjnpkjijaaW.PrintWords Go.Proofs.YtkkiibjnpkjijaaW.PrintLast Go.Proofs.YtkkiibjnpkjijaaW.PrintMore Go.Proofs.Ytkkiibjnpkjijaa.Tools Go.Proofs.Ytkkiibjnpkjijaa.Plain
set_option linter.unusedVariables false

/-! ### laws_eqUint32S -/
theorem laws_eqUint32S_l0 (l : List Int) (hl : l.length ≤ 70368744177664) (d : Nat) : ∀ (i : Nat), i + d = l.length → Ev (fun k => laws_eqUint32S.l0 k l l (i : Int)) true := by
  induction d with
  | zero =>
    intro i hi
    refine Ev.step (fun k => by rw [laws_eqUint32S.l0]) ?_
    exact ev_neg (by omega) (ev_ret rfl)
  | succ d ih =>
    intro i hi
    refine Ev.step (fun k => by rw [laws_eqUint32S.l0]) ?_
    refine ev_pos (by omega) (ev_pos (by omega) (ev_pos (by omega) (ev_pos rfl ?_)))
    rw [w64 (by omega) (by omega), show ((i : Int) + 1) = ((i + 1 : Nat) : Int) by omega]
    exact ih (i + 1) (by omega)
theorem laws_eqUint32S_ev (l : List Int) (hl : l.length ≤ 70368744177664) : Ev (fun k => laws_eqUint32S.f k l l) true :=
  ev_pos rfl (laws_eqUint32S_l0 l hl l.length 0 (by omega))

/-! ### laws_eqStore -/
theorem laws_eqStore_ev (l : List Int) (hl : l.length ≤ 70368744177664) : Ev (fun k => laws_eqStore.f k l l) true :=
  ev_bind (laws_eqUint32S_ev l hl) (ev_pos rfl (ev_ret rfl))

/-! ### laws_markUint32S -/
theorem laws_markUint32S_l0 (n : Nat) (hn : n ≤ 70368744177664) (d : Nat) : ∀ (ys : List Int) (i : Nat) (m : Int), 1 ≤ m → m + d ≤ 9000000000000000000 → ys.length = n → i + d = n →
    Ev (fun k => laws_markUint32S.l0 k ys m (i : Int)) (m + d, ys.take i ++ marksU m d) := by
  induction d with
  | zero =>
    intro ys i m h1 h2 hy hi
    refine Ev.step (fun k => by rw [laws_markUint32S.l0]) ?_
    refine ev_neg (by omega) (ev_ret ?_)
    rw [List.take_of_length_le (by omega)]; simp [marksU]
  | succ d ih =>
    intro ys i m h1 h2 hy hi
    refine Ev.step (fun k => by rw [laws_markUint32S.l0]) ?_
    refine ev_pos (by omega) (ev_pos (by omega) ?_)
    rw [w64 (by omega) (by omega), w64 (by omega) (by omega), show ((i : Int) + 1) = ((i + 1 : Nat) : Int) by omega]
    refine ev_to (ih _ (i + 1) (m + 1) (by omega) (by omega) (by simp [hy]) (by omega)) ?_
    simp only [Int.toNat_natCast]
    rw [List.take_succ_eq_append_getElem (by simp; omega), List.take_set_of_le (by omega), List.append_assoc]
    simp [marksU]; omega
theorem laws_markUint32S_ev (l : List Int) (hl : l.length ≤ 70368744177664) (m : Int) (h1 : 1 ≤ m) (h2 : m ≤ 1000000000000000000) : Ev (fun k => laws_markUint32S.f k l m) (m + l.length, marksU m l.length) :=
  laws_markUint32S_l0 l.length hl l.length l 0 m h1 (by omega) rfl (by omega)

/-! ### laws_markStore -/
theorem laws_markStore_ev (l : List Int) (hl : l.length ≤ 70368744177664) (m : Int) (h1 : 1 ≤ m) (h2 : m ≤ 1000000000000000000) : Ev (fun k => laws_markStore.f k l m) (m + l.length, marksU m l.length) :=
  ev_bind (laws_markUint32S_ev l hl m h1 h2) (ev_ret rfl)

/-! ### laws_heldUint32S -/
theorem laws_heldUint32S_l0 (n : Nat) (hn : n ≤ 70368744177664) (d : Nat) : ∀ (ys : List Int) (i : Nat) (m : Int), 1 ≤ m → m + d ≤ 9000000000000000000 → ys.length = n → i + d = n → ys.drop i = marksU m d →
    Ev (fun k => laws_heldUint32S.l0 k ys m (i : Int)) (m + d) := by
  induction d with
  | zero =>
    intro ys i m h1 h2 hy hi ht
    refine Ev.step (fun k => by rw [laws_heldUint32S.l0]) ?_
    exact ev_neg (by omega) (ev_ret (by simp))
  | succ d ih =>
    intro ys i m h1 h2 hy hi ht
    rw [List.drop_eq_getElem_cons (by omega : i < ys.length), marksU] at ht
    injection ht with hx ht
    refine Ev.step (fun k => by rw [laws_heldUint32S.l0]) ?_
    refine ev_pos (by omega) (ev_pos (by omega) (ev_pos (by rw [rd_nat (by omega), hx]) ?_))
    rw [w64 (by omega) (by omega), w64 (by omega) (by omega), show ((i : Int) + 1) = ((i + 1 : Nat) : Int) by omega]
    exact ev_to (ih _ (i + 1) (m + 1) (by omega) (by omega) hy (by omega) ht) (by omega)
theorem laws_heldUint32S_ev (n : Nat) (hl : n ≤ 70368744177664) (m : Int) (h1 : 1 ≤ m) (h2 : m ≤ 1000000000000000000) : Ev (fun k => laws_heldUint32S.f k (marksU m n) m) (m + n) :=
  laws_heldUint32S_l0 n hl n _ 0 m h1 (by omega) (marksU_length n m) (by omega) rfl

/-! ### laws_heldStore -/
theorem laws_heldStore_ev (n : Nat) (hl : n ≤ 70368744177664) (m : Int) (h1 : 1 ≤ m) (h2 : m ≤ 1000000000000000000) : Ev (fun k => laws_heldStore.f k (marksU m n) m) (m + n) :=
  ev_bind (laws_heldUint32S_ev n hl m h1 h2) (ev_neg (by omega) (ev_ret rfl))

/-! ### laws_szUint32S -/
theorem laws_szUint32S_eq (l : List Int) (left : Int) (h0 : 0 ≤ left) (h1 : left ≤ 1048576) (hl : l.length ≤ maxLen) : laws_szUint32S.f l left = some (if (l.length : Int) ≤ left then left - l.length else -1) := by
  unfold laws_szUint32S.f
  unfold maxLen at hl
  rw [w64 (by omega) (by omega)]
  by_cases h : (l.length : Int) ≤ left
  · rw [if_pos h, if_neg (by omega)]
  · rw [if_neg h, if_pos (by omega)]

/-! ### laws_szStore -/
theorem laws_szStore_eq (l : List Int) (left : Int) (h0 : 0 ≤ left) (h1 : left ≤ 1048576) (hl : l.length ≤ maxLen) : laws_szStore.f l left = some (if (l.length : Int) ≤ left then left - l.length else -1) := by
  unfold laws_szStore.f
  rw [laws_szUint32S_eq l left h0 h1 hl]
  simp only [Option.bind_some]
  by_cases h : (l.length : Int) ≤ left
  · rw [if_pos h, if_neg (by omega)]
  · rw [if_neg h, if_pos (by omega)]

/-! ### laws_toUint32S -/
theorem laws_toUint32S_l0 (l : List Int) (hl : l.length ≤ 70368744177664) (d : Nat) : ∀ (ys : List Int) (i : Nat), ys.length = l.length → i + d = l.length → ys.take i = l.take i →
    Ev (fun k => laws_toUint32S.l0 k l ys (i : Int)) l := by
  induction d with
  | zero =>
    intro ys i hy hi ht
    refine Ev.step (fun k => by rw [laws_toUint32S.l0]) ?_
    refine ev_neg (by omega) (ev_ret ?_)
    rw [List.take_of_length_le (by omega), List.take_of_length_le (by omega)] at ht
    exact ht
  | succ d ih =>
    intro ys i hy hi ht
    refine Ev.step (fun k => by rw [laws_toUint32S.l0]) ?_
    refine ev_pos (by omega) (ev_pos (by omega) (ev_pos (by omega) ?_))
    rw [w64 (by omega) (by omega), show ((i : Int) + 1) = ((i + 1 : Nat) : Int) by omega]
    refine ih _ (i + 1) (by simp [hy]) (by omega) ?_
    rw [rd_nat (by omega)]
    simp only [Int.toNat_natCast]
    rw [List.take_succ_eq_append_getElem (by simp; omega), List.take_succ_eq_append_getElem (by omega : i < l.length)]
    rw [List.take_set_of_le (by omega), ht]
    simp
theorem laws_toUint32S_ev (l : List Int) (hl : l.length ≤ 70368744177664) : Ev (fun k => laws_toUint32S.f k l) l := by
  unfold laws_toUint32S.f
  refine ev_pos (by omega) (ev_pos (by simp; omega) ?_)
  exact laws_toUint32S_l0 l hl l.length _ 0 (by simp) (by omega) (by simp)

/-! ### laws_toStore -/
theorem laws_toStore_ev (l : List Int) (hl : l.length ≤ 70368744177664) : Ev (fun k => laws_toStore.f k l) l :=
  ev_bind (laws_toUint32S_ev l hl) (ev_ret rfl)

/-! ### laws_szItem -/
theorem laws_szItem_eq (a0 : Int) (s : ByteArray) (a2 : Int) (a3 : Bool) (a4 left : Int) (h0 : 0 ≤ left) (h1 : left ≤ 1048576) (hl : s.size ≤ 140737488351232) : laws_szItem.f a0 s a2 a3 a4 left = some (if (s.size : Int) ≤ left then left - s.size else -1) := by
  unfold laws_szItem.f
  rw [w64 (by omega) (by omega)]
  by_cases h : (s.size : Int) ≤ left
  · rw [if_pos h, if_neg (by omega)]
  · rw [if_neg h, if_pos (by omega)]

/-! ### laws_szItemS -/
theorem laws_szItemS_l0 (l : List S49) (hl : l.length ≤ 1048576) (hs : ∀ x ∈ l, x.f1.size ≤ 140737488351232) (d : Nat) : ∀ (i : Nat) (left : Int), i + d = l.length → 0 ≤ left → left ≤ 1048576 →
    ∃ v, Ev (fun k => laws_szItemS.l0 k l left (i : Int)) v ∧ (0 ≤ v → ∀ x ∈ l.drop i, x.f1.size ≤ 1048576) := by
  induction d with
  | zero =>
    intro i left hi h0 h1
    refine ⟨left, Ev.step (fun k => by rw [laws_szItemS.l0]) ?_, fun _ x hx => ?_⟩
    · exact ev_neg (by omega) (ev_ret rfl)
    · rw [List.drop_of_length_le (by omega)] at hx; simp at hx
  | succ d ih =>
    intro i left hi h0 h1
    have hlt : i < l.length := by omega
    have e : rd_T49 l (i : Int) = l[i] := by simp [rd_T49, List.getElem?_eq_getElem hlt]
    have hx := hs l[i] (List.getElem_mem _)
    have e1 := laws_szItem_eq l[i].f0 l[i].f1 l[i].f2 l[i].f3 l[i].f4 left h0 h1 hx
    by_cases hsz : (l[i].f1.size : Int) ≤ left
    · rw [if_pos hsz] at e1
      obtain ⟨v, ev, hv⟩ := ih (i + 1) (left - l[i].f1.size) (by omega) (by omega) (by omega)
      refine ⟨v, Ev.step (fun k => by rw [laws_szItemS.l0]) ?_, fun h x hx => ?_⟩
      · rw [e, w64 (by omega) (by omega), show ((i : Int) + 1) = ((i + 1 : Nat) : Int) by omega]
        exact ev_pos (by omega) (ev_pos (by omega) (ev_bind (ev_eq e1) (ev_neg (by omega) ev)))
      · rw [List.drop_eq_getElem_cons hlt, List.mem_cons] at hx
        rcases hx with rfl | hx
        · omega
        · exact hv h x hx
    · rw [if_neg hsz] at e1
      refine ⟨-1, Ev.step (fun k => by rw [laws_szItemS.l0]) ?_, fun h => by omega⟩
      rw [e]
      exact ev_pos (by omega) (ev_pos (by omega) (ev_bind (ev_eq e1) (ev_pos (by omega) (ev_ret rfl))))
theorem laws_szItemS_ev (l : List S49) (hl : l.length ≤ maxLen) (hs : ∀ x ∈ l, x.f1.size ≤ 140737488351232) :
    ∃ v, Ev (fun k => laws_szItemS.f k l 1048576) v ∧ (0 ≤ v → l.length ≤ 1048576 ∧ ∀ x ∈ l, x.f1.size ≤ 1048576) := by
  unfold maxLen at hl
  by_cases h : l.length ≤ 1048576
  · obtain ⟨v, ev, hv⟩ := laws_szItemS_l0 l h hs l.length 0 (1048576 - l.length) (by omega) (by omega) (by omega)
    refine ⟨v, ?_, fun h0 => ⟨h, hv h0⟩⟩
    unfold laws_szItemS.f
    rw [w64 (by omega) (by omega)]
    exact ev_neg (by omega) ev
  · refine ⟨-1, ?_, fun h0 => by omega⟩
    unfold laws_szItemS.f
    rw [w64 (by omega) (by omega)]
    exact ev_pos (by omega) (ev_ret rfl)

/-! ### spec_StoreOk -/
theorem spec_StoreOk_eq (l : List Int) : spec_StoreOk.f l = some (decide ((l.length : Int) % 64 = 0 ∧ (l.length : Int) ≤ 768)) := by
  unfold spec_StoreOk.f
  by_cases h : (l.length : Int) % 64 = 0
  · rw [if_pos h]; simp [h]
  · rw [if_neg h]; simp [h]

/-! ### spec_l05Has -/
theorem spec_l05Has_eq (l : List Int) (b : Int) (hl : l.length ≤ 1048576) : spec_l05Has.f l b = some (decide (hasBlock l b)) := by
  unfold spec_l05Has.f
  rw [spec_StoreOk_eq]
  simp only [Option.bind_some]
  rw [w64 (by omega) (by omega)]
  by_cases hh : hasBlock l b
  · rw [decide_eq_true hh]
    obtain ⟨h, h2, h3⟩ := hh
    rw [if_pos (decide_eq_true h), if_pos h2, decide_eq_true h3]
  · rw [decide_eq_false hh]
    by_cases h : (l.length : Int) % 64 = 0 ∧ (l.length : Int) ≤ 768
    · rw [if_pos (decide_eq_true h)]
      by_cases h2 : b ≥ 0
      · rw [if_pos h2, decide_eq_false (fun x => hh ⟨h, h2, x⟩)]
      · rw [if_neg h2]
    · rw [if_neg (by simpa using h)]

/-! ### spec_PutBlock -/
theorem spec_PutBlock_l0 (l cs : List Int) (b : Int) (hb : 0 ≤ b ∧ (b + 1) * 64 ≤ (l.length : Int) ∧ l.length ≤ 768) (hc : cs.length ≤ 64) (d : Nat) : ∀ i : Nat, i + d = 64 →
    Ev (fun k => spec_PutBlock.l0 k b cs (l.take (b * 64).toNat ++ ((fill cs).take i ++ l.drop ((b * 64).toNat + i))) (i : Int)) (putCells l (b * 64).toNat cs, true) := by
  have hv := fill_length hc
  induction d with
  | zero =>
    intro i hi
    have : i = 64 := by omega
    subst this
    refine Ev.step (fun k => by rw [spec_PutBlock.l0]) ?_
    refine ev_neg (by omega) (ev_ret ?_)
    rw [List.take_of_length_le (l := fill cs) (by omega)]
    rfl
  | succ d ih =>
    intro i hi
    have next := ih (i + 1) (by omega)
    have hlt : i < 64 := by omega
    have hlen : (l.take (b * 64).toNat ++ ((fill cs).take i ++ l.drop ((b * 64).toNat + i))).length = l.length := by
      rw [List.length_append, List.length_append, List.length_take, List.length_take, List.length_drop]; omega
    have ei : wrap64 ((wrap64 (b * 64)) + (i : Int)) = (((b * 64).toNat + i : Nat) : Int) := by rw [w64 (x := b * 64) (by omega) (by omega), w64 (by omega) (by omega)]; omega
    refine Ev.step (fun k => by rw [spec_PutBlock.l0]) ?_
    rw [ei, Int.toNat_natCast, hlen]
    clear ei
    rw [mid_set 0 hlt hv (by omega)]
    rw [List.take_succ_eq_append_getElem (by omega), fill_at hc hlt] at next
    refine ev_pos (by omega) (ev_pos (by omega) (ev_pos (by omega) (ev_some ?_)))
    rw [w64 (x := (i : Int) + 1) (by omega) (by omega), show ((i : Int) + 1) = ((i + 1 : Nat) : Int) by omega]
    by_cases hic : i < cs.length
    · rw [dif_pos hic] at next
      refine ev_pos (by omega) (ev_pos (by omega) ?_)
      rw [rd_nat hic, ← mid_set 0 hlt hv (by omega), List.set_set, mid_set cs[i] hlt hv (by omega)]
      exact next
    · rw [dif_neg hic] at next
      exact ev_neg (by omega) next
theorem spec_PutBlock_ev (l : List Int) (b : Int) (cs : List Int) (hl : l.length ≤ 1048576) : Ev (fun k => spec_PutBlock.f k l b cs) (putBlock l b cs) := by
  refine ev_bind (ev_eq (spec_l05Has_eq l b hl)) ?_
  have no : ¬ (hasBlock l b ∧ cs.length ≤ 64) → Ev (fun k => spec_PutBlock.j0 k b cs true l) (putBlock l b cs) := by
    intro h
    refine Ev.step (fun k => by rw [spec_PutBlock.j0]) ?_
    exact ev_pos rfl (ev_ret (if_neg h).symm)
  by_cases h : hasBlock l b
  · refine ev_pos (decide_eq_true h) ?_
    by_cases hc : cs.length ≤ 64
    · rw [decide_eq_false (by omega)]
      have e : putBlock l b cs = (putCells l (b * 64).toNat cs, true) := if_pos ⟨h, hc⟩
      have hb := hasBlock_room h
      have key := spec_PutBlock_l0 l cs b hb hc 64 0 rfl
      rw [List.take_zero, List.nil_append, Nat.add_zero, List.take_append_drop] at key
      rw [e]
      refine Ev.step (fun k => by rw [spec_PutBlock.j0]) ?_
      exact ev_neg (by simp) (ev_some (ev_pos (by simp only [List.length_nil]; omega) key))
    · rw [decide_eq_true (by omega)]
      exact no (fun g => hc g.2)
  · exact ev_neg (by simpa using h) (no (fun g => h g.1))

/-! ### spec_l04Num -/
theorem spec_l04Num_eq (n : Int) (hex : Bool) (s l : Int) (hn : -2147483648 ≤ n ∧ n ≤ 2147483647) (hs : 0 ≤ s ∧ s ≤ 15) (hl : 0 ≤ l ∧ l ≤ 15) : spec_l04Num.f n hex s l = some (numCells n hex s l) := by
  unfold spec_l04Num.f numCells bitOf
  cases hex
  · simp only [Bool.false_eq_true, if_false]
    by_cases h : -67108864 ≤ n ∧ n ≤ 67108863
    · rw [if_pos h.1, if_pos h.2, if_pos h]
      congr 2; omega
    · rw [if_neg h]
      have e : (0 + l) % 4294967296 = 0 + l := by omega
      rw [e]
      by_cases h1 : n ≥ -67108864
      · rw [if_pos h1, if_neg (by omega)]
      · rw [if_neg h1]
  · simp only [if_true]
    by_cases h : -67108864 ≤ n ∧ n ≤ 67108863
    · rw [if_pos h.1, if_pos h.2, if_pos h]
      congr 2; omega
    · rw [if_neg h]
      have e : (16 + l) % 4294967296 = 16 + l := by omega
      rw [e]
      by_cases h1 : n ≥ -67108864
      · rw [if_pos h1, if_neg (by omega)]
      · rw [if_neg h1]

/-! ### spec_l01In -/
theorem spec_l01In_eq (a b c : Int) : spec_l01In.f a b c = some (decide (b ≤ a ∧ a ≤ c)) := by
  unfold spec_l01In.f
  by_cases h : b ≤ a
  · rw [if_pos h]; simp [h]
  · rw [if_neg h]; simp [h]

/-! ### spec_LetterOf -/
theorem spec_LetterOf_all : ∀ b : UInt8, spec_LetterOf.f 49 (b.toNat : Int) = some (lo b) := all_bytes (by decide +kernel)
theorem spec_LetterOf_ev (b : UInt8) : Ev (fun k => spec_LetterOf.f k (b.toNat : Int)) (lo b) := Ev.of (spec_LetterOf.mono _) (spec_LetterOf_all b)

/-! ### spec_NameOk -/
theorem spec_NameOk_l0 (s : ByteArray) (hs : s.size ≤ 24) (d : Nat) : ∀ i : Nat, i + d = s.size → Ev (fun k => spec_NameOk.l0 k s (i : Int)) ((s.data.toList.drop i).all (fun b => decide (1 ≤ lo b))) := by
  induction d with
  | zero =>
    intro i hi
    refine Ev.step (fun k => by rw [spec_NameOk.l0]) ?_
    refine ev_neg (by omega) (ev_ret ?_)
    rw [List.drop_of_length_le (by rw [← size_eq]; omega)]; rfl
  | succ d ih =>
    intro i hi
    have hlt : i < s.size := by omega
    refine Ev.step (fun k => by rw [spec_NameOk.l0]) ?_
    refine ev_pos (by omega) (ev_pos (by omega) (ev_bind (by rw [bt_at hlt]; exact spec_LetterOf_ev _) ?_))
    rw [drop_cons hlt, List.all_cons]
    by_cases h : 1 ≤ lo s[i]
    · refine ev_neg (by omega) ?_
      rw [w64 (by omega) (by omega), show ((i : Int) + 1) = ((i + 1 : Nat) : Int) by omega, decide_eq_true h, Bool.true_and]
      exact ih (i + 1) (by omega)
    · refine ev_pos (by omega) (ev_ret ?_)
      rw [decide_eq_false h, Bool.false_and]
theorem spec_NameOk_ev (s : ByteArray) : Ev (fun k => spec_NameOk.f k s) (okName s.data.toList) := by
  refine ev_bind (ev_eq (spec_l01In_eq _ _ _)) ?_
  unfold okName
  rw [← size_eq]
  by_cases h : 1 ≤ (s.size : Int) ∧ (s.size : Int) ≤ 24
  · refine ev_pos (decide_eq_true h) ?_
    rw [decide_eq_true (show 1 ≤ s.size by omega), decide_eq_true (show s.size ≤ 24 by omega), Bool.true_and, Bool.true_and]
    exact spec_NameOk_l0 s (by omega) s.size 0 (by omega)
  · refine ev_neg (by simp only [decide_eq_true_eq]; exact h) (ev_ret ?_)
    by_cases h1 : 1 ≤ s.size
    · rw [decide_eq_false (show ¬ s.size ≤ 24 by omega)]; simp
    · rw [decide_eq_false h1]; simp

/-! ### spec_WidthOf -/
theorem spec_WidthOf_eq (k : Int) : spec_WidthOf.f k = some (widthOf k) := by
  unfold spec_WidthOf.f widthOf
  simp only [spec_l01In_eq, Option.bind_some, decide_eq_true_eq]
  by_cases h1 : 0 ≤ k ∧ k ≤ 7
  · rw [if_pos h1, if_pos h1]
  rw [if_neg h1, if_neg h1]
  by_cases h2 : 8 ≤ k ∧ k ≤ 15
  · rw [if_pos h2, if_pos h2]
  rw [if_neg h2, if_neg h2]
  by_cases h3 : 16 ≤ k ∧ k ≤ 47
  · rw [if_pos h3, if_pos h3]
  rw [if_neg h3, if_neg h3]

/-! ### spec_BitsOf -/
theorem spec_BitsOf_eq (k : Int) : spec_BitsOf.f k = some (bitsOf k) := by
  unfold spec_BitsOf.f
  simp only [spec_WidthOf_eq, Option.bind_some]
  rcases width_cases k with ⟨e1, e2, h⟩ | ⟨e1, e2, h⟩ | ⟨e1, e2, h⟩ | ⟨e1, e2, h⟩ <;> rw [e1, e2] <;> simp
  · omega
  · rw [w64 (by omega) (by omega)]; omega
  · rw [w64 (by omega) (by omega)]; omega

/-! ### spec_l03One -/
theorem spec_l03One_l0 (s : ByteArray) (hs : s.size ≤ 1000000) (hb : ∀ b ∈ s.data.toList, 1 ≤ lo b) (d : Nat) : ∀ (i : Nat) (f left : Int), i + d = s.size → 0 ≤ left → left ≤ 28 → 0 ≤ f → f + 2 ^ left.toNat ≤ 268435456 →
    Ev (fun k => spec_l03One.l0 k s f left (i : Int)) (f + (one (s.data.toList.drop i) left).1, (i : Int) + ((one (s.data.toList.drop i) left).2 : Int)) := by
  induction d with
  | zero =>
    intro i f left hi h0 h1 h2 h3
    have := two_pow_pos left.toNat
    refine Ev.step (fun k => by rw [spec_l03One.l0]) ?_
    refine ev_neg (by omega) (ev_ret ?_)
    rw [List.drop_of_length_le (by rw [← size_eq]; omega), one]
    simp; omega
  | succ d ih =>
    intro i f left hi h0 h1 h2 h3
    have hlt : i < s.size := by omega
    have hp := two_pow_pos left.toNat
    have hl1 := hb s[i] (by rw [getB hlt]; exact List.getElem_mem _)
    have hlr := lo_range s[i]
    have w := width_in (k := lo s[i]) (by omega) (by omega)
    rw [drop_cons hlt, one]
    refine Ev.step (fun k => by rw [spec_l03One.l0]) ?_
    refine ev_pos (by omega) (ev_pos (by omega) (ev_bind (by rw [bt_at hlt]; exact spec_LetterOf_ev _) (ev_bind (ev_eq (spec_WidthOf_eq _)) ?_)))
    by_cases hw : widthOf (lo s[i]) > left
    · rw [if_pos hw]
      refine ev_pos hw (ev_ret ?_)
      simp; omega
    · rw [if_neg hw]
      have e : left.toNat = (widthOf (lo s[i])).toNat + (left - widthOf (lo s[i])).toNat := by omega
      have hq := two_pow_pos (left - widthOf (lo s[i])).toNat
      have hm : (bitsOf (lo s[i]) + 1) * 2 ^ (left - widthOf (lo s[i])).toNat ≤ 2 ^ left.toNat := by
        rw [e, Int.pow_add]; exact Int.mul_le_mul_of_nonneg_right (by omega) (by omega)
      rw [Int.add_mul] at hm
      have hn := Int.mul_nonneg w.2.2.1 (show 0 ≤ (2 : Int) ^ (left - widthOf (lo s[i])).toNat by omega)
      have hb7 := two_pow_le (a := (widthOf (lo s[i])).toNat) (b := 7) (by omega)
      refine ev_neg hw (ev_bind (ev_eq (spec_BitsOf_eq _)) (ev_pos (by rw [w64 (by omega) (by omega), wu64 (by omega) (by omega)]; omega) ?_))
      rw [w64 (x := bitsOf (lo s[i])) (by omega) (by omega), w64 (x := left - widthOf (lo s[i])) (by omega) (by omega), wu64 (by omega) (by omega), shl_i64 w.2.2.1 (by omega) (by omega), w64 (by omega) (by omega), w64 (by omega) (by omega), show ((i : Int) + 1) = ((i + 1 : Nat) : Int) by omega]
      refine ev_to (ih (i + 1) _ _ (by omega) (by omega) (by omega) (by omega) (by omega)) ?_
      simp only [Prod.mk.injEq]
      constructor <;> omega
theorem spec_l03One_ev (l : List UInt8) (hl : l.length ≤ 1000000) (hb : ∀ b ∈ l, 1 ≤ lo b) : Ev (fun k => spec_l03One.f k (toB l)) ((one l 28).1, ((one l 28).2 : Int)) := by
  refine ev_to (spec_l03One_l0 (toB l) (by rw [toB_size]; exact hl) hb l.length 0 0 28 (by rw [toB_size]; omega) (by omega) (by omega) (by omega) (by decide)) ?_
  rw [toB_data]; simp

/-! ### spec_Pack -/
theorem spec_Pack_l0 (n : Nat) : ∀ (l : List UInt8) (out : List Int), l.length ≤ n → n ≤ 1000000 → (∀ b ∈ l, 1 ≤ lo b) → out.length + l.length ≤ 1000000 → Ev (fun k => spec_Pack.l0 k (toB l) out) (out ++ packF l.length l) := by
  induction n with
  | zero =>
    intro l out hl hn hb ho
    have : l = [] := List.eq_nil_of_length_eq_zero (by omega)
    subst this
    refine Ev.step (fun k => by rw [spec_Pack.l0]) ?_
    exact ev_pos (by rw [ba_toList]; rfl) (ev_ret (by simp [packF]))
  | succ n ih =>
    intro l out hl hn hb ho
    by_cases h : l = []
    · subst h
      refine Ev.step (fun k => by rw [spec_Pack.l0]) ?_
      exact ev_pos (by rw [ba_toList]; rfl) (ev_ret (by simp [packF]))
    · have h1 := one_pos h (left := 28) (by omega)
      have h2 := one_range l 28 (by omega) (by omega) hb
      refine Ev.step (fun k => by rw [spec_Pack.l0]) ?_
      refine ev_neg (by rw [ba_toList, toB_data]; exact h) (ev_bind (spec_l03One_ev l (by omega) hb) (ev_pos (by omega) (ev_pos (by simp only; omega) (ev_pos (by rw [toB_size]; simp only; omega) ?_))))
      rw [packF_step h, extract_eq, toB_data, toB_size, List.take_of_length_le (by omega)]
      simp only [Int.toNat_natCast]
      refine ev_to (ih (l.drop (one l 28).2) (out ++ [(one l 28).1]) (by rw [List.length_drop]; omega) (by omega) (fun b hb' => hb b (List.mem_of_mem_drop hb')) (by simp only [List.length_append, List.length_drop, List.length_cons, List.length_nil]; omega)) ?_
      simp
theorem spec_Pack_ev (l : List UInt8) : Ev (fun k => spec_Pack.f k (toB l)) (pack l) := by
  refine ev_some (ev_bind (spec_NameOk_ev _) ?_)
  rw [toB_data]
  unfold pack
  by_cases h : okName l = true
  · rw [if_pos h]
    obtain ⟨h1, h2, h3⟩ := (okName_iff l).1 h
    exact ev_pos h (spec_Pack_l0 l.length l [] (by omega) (by omega) h3 (by simp; omega))
  · rw [if_neg h]
    exact ev_neg h (ev_ret rfl)

/-! ### spec_l04Word -/
theorem spec_l04Word_l0 (t : Int) (ht : 0 ≤ t ∧ t ≤ 15) (fs : List Int) (hf : ∀ f ∈ fs, 0 ≤ f ∧ f < 268435456) (hl : fs.length ≤ 24) (d : Nat) : ∀ i : Nat, i + d = fs.length →
    Ev (fun k => spec_l04Word.l0 k t ((word t fs).take i ++ fs.drop i) (i : Int)) (word t fs) := by
  induction d with
  | zero =>
    intro i hi
    refine Ev.step (fun k => by rw [spec_l04Word.l0]) ?_
    have hw := word_length t fs
    refine ev_neg (by rw [List.length_append, List.length_take, List.length_drop]; omega) (ev_ret ?_)
    rw [List.take_of_length_le (by omega), List.drop_of_length_le (by omega), List.append_nil]
  | succ d ih =>
    intro i hi
    have hw := word_length t fs
    have hlt : i < fs.length := by omega
    have hfi := hf fs[i] (List.getElem_mem _)
    have hti : i = ((word t fs).take i).length := by rw [List.length_take]; omega
    have hg := word_getElem t fs i hlt
    refine Ev.step (fun k => by rw [spec_l04Word.l0]) ?_
    refine ev_pos (by rw [List.length_append, List.length_take, List.length_drop]; omega) (ev_pos (by omega) (ev_some ?_))
    rw [List.drop_eq_getElem_cons hlt, rd_mid hti]
    simp only [Int.toNat_natCast]
    rw [set_mid hti, w64 (by omega) (by omega), show ((i : Int) + 1) = ((i + 1 : Nat) : Int) by omega]
    have next := ih (i + 1) (by omega)
    rw [List.take_succ_eq_append_getElem (by rw [hw]; exact hlt), hg, List.append_assoc, List.singleton_append] at next
    by_cases h0 : i = 0
    · refine ev_pos (by omega) ?_
      rw [rd_mid hti, set_mid hti]
      rw [if_pos h0] at next
      rw [show (fs[i] * 16 % 4294967296 + t) % 4294967296 = fs[i] * 16 + t by omega]
      exact next
    · refine ev_neg (by omega) ?_
      rw [if_neg h0] at next
      rw [show fs[i] * 16 % 4294967296 = fs[i] * 16 by omega]
      exact next
theorem spec_l04Word_ev (t : Int) (ht : 0 ≤ t ∧ t ≤ 15) (l : List UInt8) : Ev (fun k => spec_l04Word.f k t (toB l)) (word t (pack l)) := by
  refine ev_bind (spec_Pack_ev l) ?_
  have := spec_l04Word_l0 t ht (pack l) (fun f hf => (pack_fields f hf).2) (pack_length l) (pack l).length 0 (Nat.zero_add _)
  simpa using this

/-! ### spec_l04Tag -/
theorem spec_l04Tag_eq (k : Int) : spec_l04Tag.f k = some (tagOf k) := by
  unfold spec_l04Tag.f tagOf
  repeat' split
  all_goals rfl

/-! ### spec_CellsOf -/
theorem spec_CellsOf_j0 (it : It) (hn : -2147483648 ≤ it.n ∧ it.n ≤ 2147483647) (b : Bool) (hb : b = true ↔ (it.n = 0 ∧ it.hex = false ∧ it.raw = 0)) : Ev (fun k => spec_CellsOf.j0 k b it.kind (toB it.name) it.n it.hex it.raw) (cellsOf it) := by
  obtain ⟨kind, name, n, hex, raw⟩ := it
  simp only at hn hb ⊢
  refine Ev.step (fun k => by rw [spec_CellsOf.j0]) ?_
  by_cases k0 : kind = 0
  · refine ev_pos k0 ?_
    have e : cellsOf ⟨kind, name, n, hex, raw⟩ = if name = [] ∧ n = 0 ∧ hex = false then [raw] else [] := by unfold cellsOf; simp only; rw [if_pos k0]
    rw [e]
    by_cases h1 : name = []
    · refine ev_pos ((toB_nil_iff name).2 h1) ?_
      by_cases h2 : n = 0
      · refine ev_pos h2 ?_
        cases hex with
        | true => exact ev_pos rfl (ev_ret (if_neg (fun h => Bool.noConfusion h.2.2)).symm)
        | false => exact ev_neg (by simp) (ev_ret (if_pos ⟨h1, h2, rfl⟩).symm)
      · exact ev_neg h2 (ev_ret (if_neg (fun h => h2 h.2.1)).symm)
    · exact ev_neg (fun h => h1 ((toB_nil_iff name).1 h)) (ev_ret (if_neg (fun h => h1 h.1)).symm)
  refine ev_neg k0 ?_
  by_cases k7 : kind = 7
  · refine ev_pos k7 ?_
    have e : cellsOf ⟨kind, name, n, hex, raw⟩ = if name = [] ∧ raw = 0 then numCells n hex 8 2 else [] := by unfold cellsOf; simp only; rw [if_neg k0, if_pos k7]
    rw [e]
    by_cases h1 : name = []
    · refine ev_pos ((toB_nil_iff name).2 h1) ?_
      by_cases h2 : raw = 0
      · exact ev_pos h2 (ev_bind (ev_eq (spec_l04Num_eq n hex 8 2 hn (by omega) (by omega))) (ev_ret (if_pos ⟨h1, h2⟩).symm))
      · exact ev_neg h2 (ev_ret (if_neg (fun h => h2 h.2)).symm)
    · exact ev_neg (fun h => h1 ((toB_nil_iff name).1 h)) (ev_ret (if_neg (fun h => h1 h.1)).symm)
  refine ev_neg k7 ?_
  by_cases k8 : kind = 8
  · refine ev_pos k8 ?_
    have e : cellsOf ⟨kind, name, n, hex, raw⟩ = if name = [] ∧ raw = 0 then numCells n hex 6 5 else [] := by unfold cellsOf; simp only; rw [if_neg k0, if_neg k7, if_pos k8]
    rw [e]
    by_cases h1 : name = []
    · refine ev_pos ((toB_nil_iff name).2 h1) ?_
      by_cases h2 : raw = 0
      · exact ev_pos h2 (ev_bind (ev_eq (spec_l04Num_eq n hex 6 5 hn (by omega) (by omega))) (ev_ret (if_pos ⟨h1, h2⟩).symm))
      · exact ev_neg h2 (ev_ret (if_neg (fun h => h2 h.2)).symm)
    · exact ev_neg (fun h => h1 ((toB_nil_iff name).1 h)) (ev_ret (if_neg (fun h => h1 h.1)).symm)
  refine ev_neg k8 ?_
  by_cases k9 : kind = 9
  · have hp := pack_length name
    have hwl := word_length 12 (pack name)
    have e : cellsOf ⟨kind, name, n, hex, raw⟩ = if hex = false ∧ raw = 0 ∧ (pack name).length = 1 then word 12 (pack name) ++ [n % 4294967296] else [] := by unfold cellsOf; simp only; rw [if_neg k0, if_neg k7, if_neg k8, if_pos k9]
    rw [e]
    refine ev_pos k9 (ev_bind (spec_l04Word_ev 12 (by omega) name) ?_)
    by_cases h1 : (pack name).length = 1
    · refine ev_pos (by omega) ?_
      cases hex with
      | true => exact ev_pos rfl (ev_ret (if_neg (fun h => Bool.noConfusion h.1)).symm)
      | false =>
        refine ev_neg (by simp) ?_
        by_cases h2 : raw = 0
        · exact ev_pos h2 (ev_pos (by omega) (ev_ret (if_pos ⟨rfl, h2, h1⟩).symm))
        · exact ev_neg h2 (ev_ret (if_neg (fun h => h2 h.2.1)).symm)
    · exact ev_neg (by omega) (ev_ret (if_neg (fun h => h1 h.2.2)).symm)
  have e : cellsOf ⟨kind, name, n, hex, raw⟩ = if 0 < tagOf kind ∧ n = 0 ∧ hex = false ∧ raw = 0 then word (tagOf kind) (pack name) else [] := by unfold cellsOf; simp only; rw [if_neg k0, if_neg k7, if_neg k8, if_neg k9]
  rw [e]
  refine ev_neg k9 (ev_bind (ev_eq (spec_l04Tag_eq kind)) ?_)
  have ht := tagOf_range kind
  by_cases hp : 0 < tagOf kind
  · refine ev_pos hp ?_
    by_cases hq : n = 0 ∧ hex = false ∧ raw = 0
    · exact ev_pos (hb.2 hq) (ev_bind (spec_l04Word_ev _ (by omega) name) (ev_ret (if_pos ⟨hp, hq⟩).symm))
    · exact ev_neg (fun h => hq (hb.1 h)) (ev_ret (if_neg (fun h => hq h.2)).symm)
  · exact ev_neg hp (ev_ret (if_neg (fun h => hp h.1)).symm)
theorem spec_CellsOf_ev (it : It) (hn : -2147483648 ≤ it.n ∧ it.n ≤ 2147483647) : Ev (fun k => spec_CellsOf.f k it.kind (toB it.name) it.n it.hex it.raw) (cellsOf it) := by
  unfold spec_CellsOf.f
  by_cases h1 : it.n = 0
  · refine ev_pos h1 ?_
    cases h2 : it.hex with
    | true =>
      refine ev_pos rfl ?_
      rw [← h2]
      exact spec_CellsOf_j0 it hn _ (by simp [h2])
    | false =>
      refine ev_neg (by simp) ?_
      rw [← h2]
      exact spec_CellsOf_j0 it hn _ (by simp [h1, h2])
  · exact ev_neg h1 (spec_CellsOf_j0 it hn _ (by simp [h1]))

/-! ### spec_Unparse -/
def itOf (x : S51) : It := ⟨x.f0, x.f1.data.toList, x.f2, x.f3, x.f4⟩
theorem spec_Unparse_l0 (l : List S51) (hl : l.length ≤ 1048576) (hn : ∀ x ∈ l, -2147483648 ≤ x.f2 ∧ x.f2 ≤ 2147483647) (d : Nat) : ∀ (i : Nat) (out : List Int), i + d = l.length → out.length ≤ 64 →
    Ev (fun k => spec_Unparse.l0 k l out (i : Int)) (unparseFrom out ((l.drop i).map itOf)) := by
  induction d with
  | zero =>
    intro i out hi ho
    refine Ev.step (fun k => by rw [spec_Unparse.l0]) ?_
    refine ev_neg (by omega) (ev_ret ?_)
    rw [List.drop_of_length_le (by omega)]; rfl
  | succ d ih =>
    intro i out hi ho
    have hlt : i < l.length := by omega
    have e : rd_T51 l (i : Int) = l[i] := by simp [rd_T51, List.getElem?_eq_getElem hlt]
    have ec := spec_CellsOf_ev (itOf l[i]) (hn _ (List.getElem_mem _))
    have hc := cellsOf_length (itOf l[i])
    rw [show toB (itOf l[i]).name = l[i].f1 from toB_self _] at ec
    refine Ev.step (fun k => by rw [spec_Unparse.l0]) ?_
    rw [e, List.drop_eq_getElem_cons hlt, List.map_cons, unparseFrom]
    refine ev_pos (by omega) (ev_pos (by omega) (ev_bind ec ?_))
    rw [w64 (x := (out.length : Int) + ((cellsOf (itOf l[i])).length : Int)) (by omega) (by omega), w64 (x := (i : Int) + 1) (by omega) (by omega), show ((i : Int) + 1) = ((i + 1 : Nat) : Int) by omega]
    by_cases h0 : cellsOf (itOf l[i]) = []
    · rw [if_pos (Or.inl h0)]
      exact ev_pos (by rw [h0]; rfl) (ev_ret rfl)
    have h0' : ¬ ((cellsOf (itOf l[i])).length : Int) = 0 := fun h => h0 (List.length_eq_zero_iff.1 (by omega))
    by_cases h1 : out.length + (cellsOf (itOf l[i])).length > 64
    · rw [if_pos (Or.inr h1)]
      exact ev_neg h0' (ev_pos (by omega) (ev_ret rfl))
    · rw [if_neg (by rintro (h | h); exact h0 h; exact h1 h)]
      exact ev_neg h0' (ev_neg (by omega) (ev_pos (by omega) (ih (i + 1) _ (by omega) (by rw [List.length_append]; omega))))
theorem spec_Unparse_ev (l : List S51) (hl : l.length ≤ 1048576) (hn : ∀ x ∈ l, -2147483648 ≤ x.f2 ∧ x.f2 ≤ 2147483647) : Ev (fun k => spec_Unparse.f k l) (unparse (l.map itOf)) :=
  spec_Unparse_l0 l hl hn l.length 0 [] (by omega) (by simp)

/-! ### spec_PutItems -/
theorem spec_PutItems_ev (l : List Int) (b : Int) (its : List S51) (hl : l.length ≤ 1048576) (hi : its.length ≤ 1048576) (hn : ∀ x ∈ its, -2147483648 ≤ x.f2 ∧ x.f2 ≤ 2147483647) :
    Ev (fun k => spec_PutItems.f k l b its) (if (unparse (its.map itOf)).2 = true then putBlock l b (unparse (its.map itOf)).1 else ([], false)) := by
  refine ev_bind (spec_Unparse_ev its hi hn) ?_
  refine ev_ite (fun h => ?_) (fun h => ?_)
  · rw [if_pos h]
    exact ev_bind (spec_PutBlock_ev l b _ hl) (ev_ret rfl)
  · rw [if_neg h]
    exact ev_ret rfl

/-! ### laws_toItemS -/
def toI (x : S49) : S51 := ⟨x.f0, x.f1, x.f2, x.f3, x.f4⟩
theorem laws_toItemS_l0 (l : List S49) (hl : l.length ≤ 1048576) (d : Nat) : ∀ (i : Nat) (ys : List S51), i + d = l.length → ys.length = l.length → ys.take i = (l.map toI).take i →
    Ev (fun k => laws_toItemS.l0 k l ys (i : Int)) (l.map toI) := by
  induction d with
  | zero =>
    intro i ys hi hy ht
    refine Ev.step (fun k => by rw [laws_toItemS.l0]) ?_
    refine ev_neg (by omega) (ev_ret ?_)
    rw [List.take_of_length_le (by omega), List.take_of_length_le (by rw [List.length_map]; omega)] at ht
    exact ht
  | succ d ih =>
    intro i ys hi hy ht
    have hlt : i < l.length := by omega
    have e : rd_T49 l (i : Int) = l[i] := by simp [rd_T49, List.getElem?_eq_getElem hlt]
    refine Ev.step (fun k => by rw [laws_toItemS.l0]) ?_
    rw [e, w64 (by omega) (by omega), show ((i : Int) + 1) = ((i + 1 : Nat) : Int) by omega, Int.toNat_natCast]
    refine ev_pos (by omega) (ev_pos (by omega) (ev_bind (ev_eq rfl) (ev_pos (by omega) (ih (i + 1) _ (by omega) (by rw [List.length_set]; exact hy) ?_))))
    rw [List.take_succ_eq_append_getElem (by rw [List.length_set]; omega), List.take_succ_eq_append_getElem (by rw [List.length_map]; omega), List.take_set_of_le (Nat.le_refl _), ht]
    simp [toI]
theorem laws_toItemS_ev (l : List S49) (hl : l.length ≤ 1048576) : Ev (fun k => laws_toItemS.f k l) (l.map toI) :=
  ev_pos (by omega) (ev_pos (by omega) (laws_toItemS_l0 l hl l.length 0 _ (by omega) (by rw [List.length_replicate]; omega) rfl))

/-! ### impl_nameTag -/
theorem impl_nameTag_eq (k : Int) : impl_nameTag.f k = some (tagOf k) := by
  unfold impl_nameTag.f tagOf
  repeat' split
  all_goals rfl

/-! ### impl_within -/
theorem impl_within_eq (a b c : Int) : impl_within.f a b c = some (decide (b ≤ a ∧ a ≤ c)) := by
  unfold impl_within.f
  by_cases h : b ≤ a
  · rw [if_pos h]; simp [h]
  · rw [if_neg h]; simp [h]

/-! ### strings_IndexByte -/
theorem strings_IndexByte_eq (b : UInt8) : strings_IndexByte.f lettersB (b.toNat : Int) = some (lo b) := by
  unfold strings_IndexByte.f stringslite_IndexByte.f lo
  simp

/-! ### impl_LetterOf -/
theorem impl_LetterOf_eq (b : UInt8) : impl_LetterOf.f (b.toNat : Int) = some (lo b) := by
  unfold impl_LetterOf.f
  have e : impl_letters.f = some lettersB := rfl
  rw [e]
  simp only [Option.bind_some]
  rw [strings_IndexByte_eq]
  rfl

/-! ### impl_NameOk -/
theorem impl_NameOk_l0 (s : ByteArray) (hs : s.size ≤ 1048576) (d : Nat) : ∀ i : Nat, i + d = s.size → Ev (fun k => impl_NameOk.l0 k s (s.size : Int) (i : Int)) ((s.data.toList.drop i).all (fun b => decide (1 ≤ lo b)) && decide (1 ≤ s.size ∧ s.size ≤ 24)) := by
  induction d with
  | zero =>
    intro i hi
    refine Ev.step (fun k => by rw [impl_NameOk.l0]) ?_
    refine ev_neg (by omega) (ev_bind (ev_eq (impl_within_eq _ _ _)) (ev_ret ?_))
    rw [List.drop_of_length_le (by rw [← size_eq]; omega), List.all_nil, Bool.true_and]
    rw [Bool.eq_iff_iff, decide_eq_true_eq, decide_eq_true_eq]; omega
  | succ d ih =>
    intro i hi
    have hlt : i < s.size := by omega
    refine Ev.step (fun k => by rw [impl_NameOk.l0]) ?_
    refine ev_pos (by omega) (ev_pos (by omega) (ev_pos (by omega) (ev_bind (ev_eq (by rw [bt_at hlt]; exact impl_LetterOf_eq _)) ?_)))
    rw [drop_cons hlt, List.all_cons]
    by_cases h : 1 ≤ lo s[i]
    · refine ev_neg (by omega) ?_
      rw [w64 (by omega) (by omega), show ((i : Int) + 1) = ((i + 1 : Nat) : Int) by omega, decide_eq_true h, Bool.true_and]
      exact ih (i + 1) (by omega)
    · refine ev_pos (by omega) (ev_ret ?_)
      rw [decide_eq_false h, Bool.false_and, Bool.false_and]
theorem impl_NameOk_ev (s : ByteArray) (hs : s.size ≤ 1048576) : Ev (fun k => impl_NameOk.f k s) (okName s.data.toList) := by
  refine ev_to (impl_NameOk_l0 s hs s.size 0 (by omega)) ?_
  unfold okName
  rw [← size_eq, List.drop_zero, Bool.eq_iff_iff]
  simp only [Bool.and_eq_true, decide_eq_true_eq]
  exact ⟨fun h => ⟨h.2, h.1⟩, fun h => ⟨h.2, h.1⟩⟩

/-! ### impl_WidthOf -/
theorem impl_WidthOf_eq (k : Int) : impl_WidthOf.f k = some (widthOf k) := by
  unfold impl_WidthOf.f widthOf
  simp only [impl_within_eq, Option.bind_some, decide_eq_true_eq]
  by_cases h1 : 0 ≤ k ∧ k ≤ 7
  · rw [if_pos h1, if_pos h1]
  rw [if_neg h1, if_neg h1]
  by_cases h2 : 8 ≤ k ∧ k ≤ 15
  · rw [if_pos h2, if_pos h2]
  rw [if_neg h2, if_neg h2]
  by_cases h3 : 16 ≤ k ∧ k ≤ 47
  · rw [if_pos h3, if_pos h3]
  rw [if_neg h3, if_neg h3]

/-! ### impl_BitsOf -/
theorem impl_BitsOf_eq (k : Int) : impl_BitsOf.f k = some (bitsOf k) := by
  unfold impl_BitsOf.f
  simp only [impl_WidthOf_eq, Option.bind_some]
  rcases width_cases k with ⟨e1, e2, h⟩ | ⟨e1, e2, h⟩ | ⟨e1, e2, h⟩ | ⟨e1, e2, h⟩ <;> rw [e1, e2] <;> simp
  · omega
  · omega
  · omega

/-! ### impl_PackOne -/
theorem impl_PackOne_l0 (s : ByteArray) (hs : s.size ≤ 1000000) (hb : ∀ b ∈ s.data.toList, 1 ≤ lo b) (d : Nat) : ∀ (i : Nat) (f left : Int), i + d = s.size → 0 ≤ left → left ≤ 28 → 0 ≤ f → f % 2 ^ left.toNat = 0 → f + 2 ^ left.toNat ≤ 268435456 →
    Ev (fun k => impl_PackOne.l0 k s f left (i : Int) (s.size : Int) (i : Int)) (f + (one (s.data.toList.drop i) left).1, (i : Int) + ((one (s.data.toList.drop i) left).2 : Int)) := by
  induction d with
  | zero =>
    intro i f left hi h0 h1 h2 hm h3
    have := two_pow_pos left.toNat
    refine Ev.step (fun k => by rw [impl_PackOne.l0]) ?_
    refine ev_neg (by omega) (ev_ret ?_)
    rw [List.drop_of_length_le (by rw [← size_eq]; omega), one]
    simp
  | succ d ih =>
    intro i f left hi h0 h1 h2 hm0 h3
    have hlt : i < s.size := by omega
    have hp := two_pow_pos left.toNat
    have hl1 := hb s[i] (by rw [getB hlt]; exact List.getElem_mem _)
    have hlr := lo_range s[i]
    have w := width_in (k := lo s[i]) (by omega) (by omega)
    rw [drop_cons hlt, one]
    refine Ev.step (fun k => by rw [impl_PackOne.l0]) ?_
    refine ev_pos (by omega) (ev_pos (by omega) (ev_pos (by omega) (ev_bind (ev_eq (by rw [bt_at hlt]; exact impl_LetterOf_eq _)) (ev_bind (ev_eq (impl_WidthOf_eq _)) ?_))))
    by_cases hw : widthOf (lo s[i]) > left
    · rw [if_pos hw]
      refine ev_pos hw (ev_ret ?_)
      simp
    · rw [if_neg hw]
      have e : left.toNat = (widthOf (lo s[i])).toNat + (left - widthOf (lo s[i])).toNat := by omega
      have hq := two_pow_pos (left - widthOf (lo s[i])).toNat
      have hm : (bitsOf (lo s[i]) + 1) * 2 ^ (left - widthOf (lo s[i])).toNat ≤ 2 ^ left.toNat := by
        rw [e, Int.pow_add]; exact Int.mul_le_mul_of_nonneg_right (by omega) (by omega)
      rw [Int.add_mul] at hm
      have hn := Int.mul_nonneg w.2.2.1 (show 0 ≤ (2 : Int) ^ (left - widthOf (lo s[i])).toNat by omega)
      refine ev_neg hw (ev_bind (ev_eq (impl_WidthOf_eq _)) (ev_bind (ev_eq (impl_BitsOf_eq _)) (ev_pos (by rw [w64 (by omega) (by omega)]; omega) ?_)))
      rw [w64 (x := left - widthOf (lo s[i])) (by omega) (by omega), shl_u32 w.2.2.1 (by omega) (by omega), w64 (by omega) (by omega), show ((i : Int) + 1) = ((i + 1 : Nat) : Int) by omega]
      rw [or_u32 left.toNat (by omega) hm0 (by omega) (by omega) (by omega)]
      refine ev_to (ih (i + 1) _ _ (by omega) (by omega) (by omega) (by omega) ?_ (by omega)) ?_
      · have e2 : (f + bitsOf (lo s[i]) * 2 ^ (left - widthOf (lo s[i])).toNat) = (2 : Int) ^ (left - widthOf (lo s[i])).toNat * (2 ^ (widthOf (lo s[i])).toNat * (f / 2 ^ left.toNat) + bitsOf (lo s[i])) := by
          have h4 := Int.mul_ediv_add_emod f (2 ^ left.toNat)
          rw [hm0, e, Int.pow_add] at h4
          rw [Int.mul_add, Int.mul_comm (bitsOf _), e, Int.pow_add]
          rw [← Int.mul_assoc, Int.mul_comm (2 ^ (left - widthOf (lo s[i])).toNat) (2 ^ (widthOf (lo s[i])).toNat)]
          omega
        rw [e2, Int.mul_emod_right]
      · simp only [Prod.mk.injEq]
        constructor <;> omega
theorem impl_PackOne_ev (l : List UInt8) (hl : l.length ≤ 1048576) : Ev (fun k => impl_PackOne.f k (toB l)) (if okName l = true then ((one l 28).1, ((one l 28).2 : Int)) else (0, 0)) := by
  refine ev_bind (impl_NameOk_ev (toB l) (by rw [toB_size]; omega)) ?_
  rw [toB_data]
  by_cases h : okName l = true
  · rw [if_pos h]
    obtain ⟨h1, h2, h3⟩ := (okName_iff l).1 h
    refine ev_pos h (ev_to (impl_PackOne_l0 (toB l) (by rw [toB_size]; omega) h3 l.length 0 0 28 (by rw [toB_size]; omega) (by omega) (by omega) (by omega) (by simp) (by decide)) ?_)
    rw [toB_data]; simp
  · rw [if_neg h]
    exact ev_neg h (ev_ret rfl)

/-! ### impl_Pack -/
theorem impl_Pack_l0 (n : Nat) : ∀ (l : List UInt8) (out : List Int), l.length ≤ n → n ≤ 24 → (∀ b ∈ l, 1 ≤ lo b) → out.length + l.length ≤ 1000000 → Ev (fun k => impl_Pack.l0 k (toB l) out) (out ++ packF l.length l) := by
  have stop : ∀ out : List Int, Ev (fun k => impl_Pack.l0 k (toB []) out) (out ++ packF 0 []) := by
    intro out
    refine Ev.step (fun k => by rw [impl_Pack.l0]) ?_
    refine ev_bind (impl_NameOk_ev _ (by decide)) (ev_neg (by decide) (ev_ret ?_))
    simp [packF]
  induction n with
  | zero =>
    intro l out hl hn hb ho
    have : l = [] := List.eq_nil_of_length_eq_zero (by omega)
    subst this
    exact stop out
  | succ n ih =>
    intro l out hl hn hb ho
    by_cases h : l = []
    · subst h; exact stop out
    · have h1 := one_pos h (left := 28) (by omega)
      have h2 := one_range l 28 (by omega) (by omega) hb
      have hok : okName l = true := (okName_iff l).2 ⟨List.length_pos_iff.2 h, by omega, hb⟩
      have hone := impl_PackOne_ev l (by omega)
      rw [if_pos hok] at hone
      refine Ev.step (fun k => by rw [impl_Pack.l0]) ?_
      refine ev_bind (impl_NameOk_ev _ (by rw [toB_size]; omega)) (ev_pos (by rw [toB_data]; exact hok) (ev_bind hone (ev_pos (by omega) (ev_pos (by simp only; omega) (ev_pos (by rw [toB_size]; simp only; omega) ?_)))))
      rw [packF_step h, extract_eq, toB_data, toB_size, List.take_of_length_le (by omega)]
      simp only [Int.toNat_natCast]
      refine ev_to (ih (l.drop (one l 28).2) (out ++ [(one l 28).1]) (by rw [List.length_drop]; omega) (by omega) (fun b hb' => hb b (List.mem_of_mem_drop hb')) (by simp only [List.length_append, List.length_drop, List.length_cons, List.length_nil]; omega)) ?_
      simp
theorem impl_Pack_ev (l : List UInt8) (hl : l.length ≤ 1048576) : Ev (fun k => impl_Pack.f k (toB l)) (pack l) := by
  unfold pack
  by_cases h : okName l = true
  · rw [if_pos h]
    obtain ⟨h1, h2, h3⟩ := (okName_iff l).1 h
    exact impl_Pack_l0 l.length l [] (by omega) h2 h3 (by simp; omega)
  · rw [if_neg h]
    refine Ev.step (g := fun k => impl_Pack.l0 k (toB l) []) (fun k => by rw [impl_Pack.l0]) ?_
    exact ev_bind (impl_NameOk_ev _ (by rw [toB_size]; omega)) (ev_neg (by rw [toB_data]; exact h) (ev_ret rfl))

/-! ### impl_numberCells -/
theorem impl_numberCells_eq (n : Int) (hex : Bool) (s l : Int) (hn : -2147483648 ≤ n ∧ n ≤ 2147483647) (hs : 0 ≤ s ∧ s ≤ 15) (hl : 0 ≤ l ∧ l ≤ 15) : impl_numberCells.f n hex s l = some (numCells n hex s l) := by
  unfold impl_numberCells.f numCells bitOf
  have e0 : (n % 4294967296 * 32) % 4294967296 = n % 134217728 * 32 := by omega
  have em : n % 134217728 * 32 % 2 ^ 5 = 0 := by omega
  rw [e0]
  cases hex
  · simp only [Bool.false_eq_true, if_false]
    rw [or_u32 (x := n % 134217728 * 32) (y := 0) 0 (by omega) (by simp) (by omega) (by omega) (by omega), or_u32 (x := n % 134217728 * 32 + 0) (y := s) 4 (by omega) (by omega) hs.1 (by omega) (by omega), or_u32 (x := 0) (y := l) 4 (by omega) (by omega) hl.1 (by omega) (by omega)]
    by_cases h : -67108864 ≤ n ∧ n ≤ 67108863
    · rw [if_pos h.1, if_pos h.2, if_pos h]
    · rw [if_neg h]
      by_cases h1 : n ≥ -67108864
      · rw [if_pos h1, if_neg (by omega)]
      · rw [if_neg h1]
  · simp only [if_true]
    rw [or_u32 (x := n % 134217728 * 32) (y := 16) 5 (by omega) em (by omega) (by omega) (by omega), or_u32 (x := n % 134217728 * 32 + 16) (y := s) 4 (by omega) (by omega) hs.1 (by omega) (by omega), or_u32 (x := 16) (y := l) 4 (by omega) (by omega) hl.1 (by omega) (by omega)]
    by_cases h : -67108864 ≤ n ∧ n ≤ 67108863
    · rw [if_pos h.1, if_pos h.2, if_pos h]
    · rw [if_neg h]
      by_cases h1 : n ≥ -67108864
      · rw [if_pos h1, if_neg (by omega)]
      · rw [if_neg h1]

/-! ### impl_CellsOf -/
theorem impl_CellsOf_l0 (fs : List Int) (hf : ∀ f ∈ fs, 0 ≤ f ∧ f < 268435456) (hl : fs.length ≤ 24) (d : Nat) : ∀ (i : Nat) (t : Int) (out : List Int), i + d = fs.length → 0 ≤ t ∧ t ≤ 15 → out.length ≤ i →
    Ev (fun k => impl_CellsOf.l0 k t out fs (fs.length : Int) (i : Int)) (out ++ word t (fs.drop i)) := by
  induction d with
  | zero =>
    intro i t out hi ht ho
    refine Ev.step (fun k => by rw [impl_CellsOf.l0]) ?_
    refine ev_neg (by omega) (ev_ret ?_)
    rw [List.drop_of_length_le (by omega), word, List.append_nil]
  | succ d ih =>
    intro i t out hi ht ho
    have hlt : i < fs.length := by omega
    have hfi := hf fs[i] (List.getElem_mem _)
    refine Ev.step (fun k => by rw [impl_CellsOf.l0]) ?_
    refine ev_pos (by omega) (ev_pos (by omega) (ev_pos (by omega) (ev_pos (by omega) ?_)))
    rw [rd_nat hlt, w64 (by omega) (by omega), show ((i : Int) + 1) = ((i + 1 : Nat) : Int) by omega]
    rw [show fs[i] * 16 % 4294967296 = fs[i] * 16 by omega, or_u32 4 (by omega) (by omega) ht.1 (by omega) (by omega)]
    refine ev_to (ih (i + 1) 0 _ (by omega) (by omega) (by rw [List.length_append, List.length_singleton]; omega)) ?_
    rw [word_zero, List.drop_eq_getElem_cons hlt, word, List.append_assoc]
    rfl
theorem impl_CellsOf_ev (it : It) (hn : -2147483648 ≤ it.n ∧ it.n ≤ 2147483647) (hs : it.name.length ≤ 1048576) : Ev (fun k => impl_CellsOf.f k it.kind (toB it.name) it.n it.hex it.raw) (cellsOf it) := by
  obtain ⟨kind, name, n, hex, raw⟩ := it
  simp only at hn hs ⊢
  have hp := pack_length name
  have hpf : ∀ f ∈ pack name, 0 ≤ f ∧ f < 268435456 := fun f hf => (pack_fields f hf).2
  have ht := tagOf_range kind
  have rest : ∀ b : Bool, (b = true → 0 < tagOf kind ∧ n = 0 ∧ hex = false ∧ raw = 0) → (0 < tagOf kind ∧ n = 0 ∧ hex = false ∧ raw = 0 → b = true) → Ev (fun k => impl_CellsOf.j0 k (tagOf kind) b kind (toB name) n hex raw) (cellsOf ⟨kind, name, n, hex, raw⟩) := by
    intro b hb1 hb2
    refine Ev.step (fun k => by rw [impl_CellsOf.j0]) ?_
    by_cases hb : b = true
    · obtain ⟨q1, q2⟩ := hb1 hb
      have := tagOf_pos q1
      have e : cellsOf ⟨kind, name, n, hex, raw⟩ = word (tagOf kind) (pack name) := by unfold cellsOf; simp only; rw [if_neg (by omega), if_neg (by omega), if_neg (by omega), if_neg (by omega), if_pos ⟨q1, q2⟩]
      rw [e]
      refine ev_pos hb (ev_bind (impl_Pack_ev name hs) ?_)
      have := impl_CellsOf_l0 (pack name) hpf hp (pack name).length 0 (tagOf kind) [] (Nat.zero_add _) (by omega) (Nat.le_refl _)
      simpa using this
    · refine ev_neg hb ?_
      by_cases k0 : kind = 0
      · have e : cellsOf ⟨kind, name, n, hex, raw⟩ = if name = [] ∧ n = 0 ∧ hex = false then [raw] else [] := by unfold cellsOf; simp only; rw [if_pos k0]
        rw [e]
        refine ev_neg (by simp [k0]) (ev_neg (by simp [k0]) (ev_neg (by simp [k0]) ?_))
        by_cases h : name = [] ∧ n = 0 ∧ hex = false
        · refine ev_pos ?_ (ev_ret (if_pos h).symm)
          obtain ⟨h1, h2, h3⟩ := h
          rw [(toB_nil_iff name).2 h1, h2, h3, k0]; rfl
        · refine ev_neg ?_ (ev_ret (if_neg h).symm)
          intro hc
          simp only [Bool.and_eq_true, beq_iff_eq, Bool.not_eq_true'] at hc
          exact h ⟨(toB_nil_iff name).1 hc.2.1, hc.2.2.1, hc.2.2.2⟩
      by_cases k7 : kind = 7
      · have e : cellsOf ⟨kind, name, n, hex, raw⟩ = if name = [] ∧ raw = 0 then numCells n hex 8 2 else [] := by unfold cellsOf; simp only; rw [if_neg k0, if_pos k7]
        rw [e]
        by_cases h : name = [] ∧ raw = 0
        · refine ev_pos ?_ (ev_bind (ev_eq (impl_numberCells_eq n hex 8 2 hn (by omega) (by omega))) (ev_ret (if_pos h).symm))
          rw [(toB_nil_iff name).2 h.1, h.2, k7]; rfl
        · refine ev_neg ?_ (ev_neg (by simp [k7]) (ev_neg (by simp [k7]) (ev_neg (by simp [k7]) (ev_ret (if_neg h).symm))))
          intro hc
          simp only [Bool.and_eq_true, beq_iff_eq] at hc
          exact h ⟨(toB_nil_iff name).1 hc.2.1, hc.2.2⟩
      refine ev_neg (by simp [k7]) ?_
      by_cases k8 : kind = 8
      · have e : cellsOf ⟨kind, name, n, hex, raw⟩ = if name = [] ∧ raw = 0 then numCells n hex 6 5 else [] := by unfold cellsOf; simp only; rw [if_neg k0, if_neg k7, if_pos k8]
        rw [e]
        by_cases h : name = [] ∧ raw = 0
        · refine ev_pos ?_ (ev_bind (ev_eq (impl_numberCells_eq n hex 6 5 hn (by omega) (by omega))) (ev_ret (if_pos h).symm))
          rw [(toB_nil_iff name).2 h.1, h.2, k8]; rfl
        · refine ev_neg ?_ (ev_neg (by simp [k8]) (ev_neg (by simp [k8]) (ev_ret (if_neg h).symm)))
          intro hc
          simp only [Bool.and_eq_true, beq_iff_eq] at hc
          exact h ⟨(toB_nil_iff name).1 hc.2.1, hc.2.2⟩
      refine ev_neg (by simp [k8]) ?_
      by_cases k9 : kind = 9
      · have e : cellsOf ⟨kind, name, n, hex, raw⟩ = if hex = false ∧ raw = 0 ∧ (pack name).length = 1 then word 12 (pack name) ++ [n % 4294967296] else [] := by unfold cellsOf; simp only; rw [if_neg k0, if_neg k7, if_neg k8, if_pos k9]
        rw [e]
        by_cases h : hex = false ∧ raw = 0
        · refine ev_pos (by rw [h.1, h.2, k9]; rfl) (ev_bind (impl_Pack_ev name hs) ?_)
          by_cases h1 : (pack name).length = 1
          · obtain ⟨f, hf⟩ := List.length_eq_one_iff.1 h1
            have hff := hpf f (by rw [hf]; simp)
            refine ev_pos (by omega) (ev_pos (by omega) (ev_ret ?_))
            rw [if_pos ⟨h.1, h.2, h1⟩, hf]
            simp only [rd, Int.toNat_zero, List.getD_cons_zero, word, List.map_nil, List.singleton_append]
            rw [show f * 16 % 4294967296 = f * 16 by omega, or_u32 4 (by omega) (by omega) (by omega) (by omega) (by omega)]
          · exact ev_neg (by omega) (ev_ret (if_neg (fun h => h1 h.2.2)).symm)
        · refine ev_neg ?_ (ev_neg (by simp [k9]) (ev_ret (if_neg (fun hc => h ⟨hc.1, hc.2.1⟩)).symm))
          intro hc
          simp only [Bool.and_eq_true, beq_iff_eq, Bool.not_eq_true'] at hc
          exact h hc.2
      have e : cellsOf ⟨kind, name, n, hex, raw⟩ = [] := by unfold cellsOf; simp only; rw [if_neg k0, if_neg k7, if_neg k8, if_neg k9, if_neg (fun h => hb (hb2 h))]
      rw [e]
      exact ev_neg (by simp [k9]) (ev_neg (by simp [k0]) (ev_ret rfl))
  unfold impl_CellsOf.f
  refine ev_bind (ev_eq (impl_nameTag_eq kind)) ?_
  by_cases hp0 : tagOf kind > 0
  · refine ev_pos hp0 (rest _ ?_ ?_)
    · intro h
      simp only [Bool.and_eq_true, beq_iff_eq, Bool.not_eq_true'] at h
      exact ⟨hp0, h⟩
    · intro h
      simp [h.2.1, h.2.2.1, h.2.2.2]
  · exact ev_neg hp0 (rest false (by simp) (fun h => absurd h.1 hp0))

/-! ### impl_Unparse -/
theorem impl_Unparse_l0 (l : List S51) (hl : l.length ≤ 1048576) (hn : ∀ x ∈ l, -2147483648 ≤ x.f2 ∧ x.f2 ≤ 2147483647) (hs : ∀ x ∈ l, x.f1.size ≤ 1048576) (d : Nat) : ∀ (i : Nat) (out : List Int), i + d = l.length → out.length ≤ 64 →
    Ev (fun k => impl_Unparse.l0 k out l (l.length : Int) (i : Int)) (unparseFrom out ((l.drop i).map itOf)) := by
  induction d with
  | zero =>
    intro i out hi ho
    refine Ev.step (fun k => by rw [impl_Unparse.l0]) ?_
    refine ev_neg (by omega) (ev_ret ?_)
    rw [List.drop_of_length_le (by omega)]; rfl
  | succ d ih =>
    intro i out hi ho
    have hlt : i < l.length := by omega
    have e : rd_T51 l (i : Int) = l[i] := by simp [rd_T51, List.getElem?_eq_getElem hlt]
    have ec := impl_CellsOf_ev (itOf l[i]) (hn _ (List.getElem_mem _)) (show l[i].f1.data.toList.length ≤ 1048576 from hs _ (List.getElem_mem _))
    have hc := cellsOf_length (itOf l[i])
    rw [show toB (itOf l[i]).name = l[i].f1 from toB_self _] at ec
    refine Ev.step (fun k => by rw [impl_Unparse.l0]) ?_
    rw [e, List.drop_eq_getElem_cons hlt, List.map_cons, unparseFrom]
    refine ev_pos (by omega) (ev_pos (by omega) (ev_pos (by omega) (ev_bind ec (ev_pos (by omega) (ev_some ?_)))))
    rw [w64 (x := (i : Int) + 1) (by omega) (by omega), show ((i : Int) + 1) = ((i + 1 : Nat) : Int) by omega, List.length_append]
    by_cases h0 : cellsOf (itOf l[i]) = []
    · rw [if_pos (Or.inl h0)]
      exact ev_pos (by rw [h0]; rfl) (ev_ret rfl)
    have h0' : ¬ ((cellsOf (itOf l[i])).length : Int) = 0 := fun h => h0 (List.length_eq_zero_iff.1 (by omega))
    by_cases h1 : out.length + (cellsOf (itOf l[i])).length > 64
    · rw [if_pos (Or.inr h1)]
      exact ev_neg h0' (ev_pos (by omega) (ev_ret rfl))
    · rw [if_neg (by rintro (h | h); exact h0 h; exact h1 h)]
      exact ev_neg h0' (ev_neg (by omega) (ih (i + 1) _ (by omega) (by rw [List.length_append]; omega)))
theorem impl_Unparse_ev (l : List S51) (hl : l.length ≤ 1048576) (hn : ∀ x ∈ l, -2147483648 ≤ x.f2 ∧ x.f2 ≤ 2147483647) (hs : ∀ x ∈ l, x.f1.size ≤ 1048576) : Ev (fun k => impl_Unparse.f k l) (unparse (l.map itOf)) :=
  impl_Unparse_l0 l hl hn hs l.length 0 [] (by omega) (by simp)

/-! ### impl_StoreOk -/
theorem impl_StoreOk_eq (l : List Int) : impl_StoreOk.f l = some (decide ((l.length : Int) % 64 = 0 ∧ (l.length : Int) ≤ 768)) := by
  unfold impl_StoreOk.f
  by_cases h : (l.length : Int) % 64 = 0
  · rw [if_pos h]; simp [h]
  · rw [if_neg h]; simp [h]

/-! ### impl_hasBlocks -/
theorem impl_hasBlocks_eq (l : List Int) (b : Int) (hl : l.length ≤ 1048576) : impl_hasBlocks.f l [b] = some (decide (hasBlock l b)) := by
  unfold impl_hasBlocks.f
  simp only
  rw [impl_StoreOk_eq]
  simp only [Option.bind_some]
  rw [w64 (x := (l.length : Int) / 64) (by omega) (by omega), w64 (by omega) (by omega)]
  by_cases hh : hasBlock l b
  · rw [decide_eq_true hh]
    obtain ⟨h, h2, h3⟩ := hh
    rw [if_pos (decide_eq_true h), impl_within_eq, decide_eq_true (by omega)]
  · rw [decide_eq_false hh]
    by_cases h : (l.length : Int) % 64 = 0 ∧ (l.length : Int) ≤ 768
    · rw [if_pos (decide_eq_true h), impl_within_eq, decide_eq_false (fun x => hh ⟨h, x.1, by omega⟩)]
    · rw [if_neg (by simpa using h)]

/-! ### slices_Clone_uint32_uint32 -/
theorem slices_Clone_u32_eq (l : List Int) (hl : l.length ≤ 35184372088831) : slices_Clone_uint32_uint32.f l = some l := if_pos hl

/-! ### impl_PutBlock -/
theorem impl_PutBlock_eq (l : List Int) (b : Int) (cs : List Int) (hl : l.length ≤ 1048576) : impl_PutBlock.f l b cs = some (putBlock l b cs) := by
  unfold impl_PutBlock.f impl_PutBlock.g
  rw [impl_hasBlocks_eq l b hl]
  simp only [Option.bind_some]
  by_cases h : hasBlock l b
  · rw [if_pos (decide_eq_true h)]
    by_cases hc : cs.length ≤ 64
    · have hb := hasBlock_room h
      rw [if_neg (by omega), slices_Clone_u32_eq l (by omega)]
      simp only [Option.bind_some]
      rw [if_pos trivial, if_pos ⟨hb.1, hb.2.1, hl, hc⟩, show putBlock l b cs = (putCells l (b * 64).toNat cs, true) from if_pos ⟨h, hc⟩, putAt, put_splice hc (by omega)]
    · rw [if_pos (by omega)]
      simp only [Option.bind_some]
      rw [if_neg (by simp), show putBlock l b cs = ([], false) from if_neg (fun g => hc g.2)]
  · rw [if_neg (by simpa using h)]
    simp only [Option.bind_some]
    rw [if_neg (by simp), show putBlock l b cs = ([], false) from if_neg (fun g => h g.1)]

/-! ### impl_PutItems -/
theorem impl_PutItems_ev (l : List Int) (b : Int) (its : List S51) (hl : l.length ≤ 1048576) (hi : its.length ≤ 1048576) (hn : ∀ x ∈ its, -2147483648 ≤ x.f2 ∧ x.f2 ≤ 2147483647) (hs : ∀ x ∈ its, x.f1.size ≤ 1048576) :
    Ev (fun k => impl_PutItems.f k l b its) (if (unparse (its.map itOf)).2 = true then putBlock l b (unparse (its.map itOf)).1 else ([], false)) := by
  refine ev_bind (impl_Unparse_ev its hi hn hs) ?_
  refine ev_ite (fun h => ?_) (fun h => ?_)
  · rw [if_pos h]
    exact ev_bind (ev_eq (impl_PutBlock_eq l b _ hl)) (ev_ret rfl)
  · rw [if_neg h]
    exact ev_ret rfl

/-! ### laws_eqItem -/
theorem laws_eqItem_eq (a : Int) (b : ByteArray) (c : Int) (d : Bool) (e : Int) : laws_eqItem.f a b c d e a b c d e = some true := by
  unfold laws_eqItem.f
  rw [if_pos rfl, if_pos rfl, if_pos rfl, if_neg (by simp), if_pos rfl]

/-! ### laws_eqItemS -/
theorem laws_eqItemS_l0 (l : List S51) (hl : l.length ≤ 70368744177664) (d : Nat) : ∀ (i : Nat), i + d = l.length → Ev (fun k => laws_eqItemS.l0 k l l (i : Int)) true := by
  induction d with
  | zero =>
    intro i hi
    refine Ev.step (fun k => by rw [laws_eqItemS.l0]) ?_
    exact ev_neg (by omega) (ev_ret rfl)
  | succ d ih =>
    intro i hi
    refine Ev.step (fun k => by rw [laws_eqItemS.l0]) ?_
    refine ev_pos (by omega) (ev_pos (by omega) (ev_pos (by omega) (ev_bind (ev_eq (laws_eqItem_eq _ _ _ _ _)) (ev_pos rfl ?_))))
    rw [w64 (by omega) (by omega), show ((i : Int) + 1) = ((i + 1 : Nat) : Int) by omega]
    exact ih (i + 1) (by omega)
theorem laws_eqItemS_ev (l : List S51) (hl : l.length ≤ 70368744177664) : Ev (fun k => laws_eqItemS.f k l l) true :=
  ev_pos rfl (laws_eqItemS_l0 l hl l.length 0 (by omega))

/-! ### laws_markText -/
theorem strOf_size (l : List Int) : (strOfNums l).size = l.length := by
  show ((l.map fun n => UInt8.ofNat n.toNat).toArray).size = l.length
  simp
theorem laws_markText_l0 (n : Nat) : ∀ (x : Int) (t : ByteArray), 0 ≤ x → x < 10 ^ n → x ≤ 9000000000000000000 → t.size + n ≤ 1000000 → ∃ r, Ev (fun k => laws_markText.l0 k x t) r := by
  induction n with
  | zero =>
    intro x t h0 h1 h2 h3
    refine ⟨⟨#[109]⟩ ++ t, Ev.step (fun k => by rw [laws_markText.l0]) ?_⟩
    exact ev_neg (by simp at h1; omega) (ev_pos (by omega) (ev_ret rfl))
  | succ n ih =>
    intro x t h0 h1 h2 h3
    by_cases hx : x > 0
    · have hd : Int.tdiv x 10 = x / 10 := Int.tdiv_eq_ediv_of_nonneg h0
      obtain ⟨r, hr⟩ := ih (x / 10) (strOfNums [(wrap64 (48 + (Int.tmod x 10))) % 256] ++ t) (by omega) (by rw [Int.pow_succ] at h1; omega) (by omega) (by rw [ByteArray.size_append, strOf_size]; simp only [List.length_cons, List.length_nil]; omega)
      refine ⟨r, Ev.step (fun k => by rw [laws_markText.l0]) ?_⟩
      refine ev_pos hx (ev_some (ev_pos ?_ ?_))
      · rw [strOf_size]; simp only [List.length_cons, List.length_nil]; omega
      · rw [hd, w64 (x := x / 10) (by omega) (by omega)]; exact hr
    · refine ⟨⟨#[109]⟩ ++ t, Ev.step (fun k => by rw [laws_markText.l0]) ?_⟩
      exact ev_neg hx (ev_pos (by omega) (ev_ret rfl))
theorem laws_markText_some (m : Int) (h1 : 1 ≤ m) (h2 : m ≤ 9000000000000000000) : ∃ r, Ev (fun k => laws_markText.f k m) r := by
  obtain ⟨r, hr⟩ := laws_markText_l0 19 m ⟨#[]⟩ (by omega) (by omega) h2 (by decide)
  exact ⟨r, ev_neg (by omega) hr⟩
open Classical in
/-- What markText tells. -/
noncomputable def mtext (m : Int) : ByteArray := if h : ∃ r, Ev (fun k => laws_markText.f k m) r then Classical.choose h else ⟨#[]⟩
theorem laws_markText_ev (m : Int) (h1 : 1 ≤ m) (h2 : m ≤ 9000000000000000000) : Ev (fun k => laws_markText.f k m) (mtext m) := by
  have h := laws_markText_some m h1 h2
  unfold mtext
  rw [dif_pos h]
  exact Classical.choose_spec h
noncomputable def marksS (m : Int) : Nat → List ByteArray
  | 0 => []
  | d + 1 => mtext m :: marksS (m + 1) d
theorem marksS_length (d : Nat) : ∀ m, (marksS m d).length = d := by
  induction d with
  | zero => intro m; rfl
  | succ d ih => intro m; simp [marksS, ih]

/-! ### laws_markItemS -/
theorem w64_five {m : Int} (h1 : 1 ≤ m) (h2 : m ≤ 9000000000000000000) : wrap64 ((wrap64 ((wrap64 ((wrap64 ((wrap64 (m + 1)) + 1)) + 1)) + 1)) + 1) = m + 5 := by
  rw [w64 (x := m + 1) (by omega) (by omega), w64 (x := m + 1 + 1) (by omega) (by omega), w64 (x := m + 1 + 1 + 1) (by omega) (by omega), w64 (x := m + 1 + 1 + 1 + 1) (by omega) (by omega), w64 (x := m + 1 + 1 + 1 + 1 + 1) (by omega) (by omega)]
  omega
theorem markText_next {m : Int} (h1 : 1 ≤ m) (h2 : m ≤ 8000000000000000000) : Ev (fun k => laws_markText.f k (wrap64 (m + 1))) (mtext (m + 1)) := by
  rw [w64 (x := m + 1) (by omega) (by omega)]
  exact laws_markText_ev (m + 1) (by omega) (by omega)
theorem laws_markItemS_l0 (n : Nat) (hn : n ≤ 1048576) (d : Nat) : ∀ (ys : List S51) (i : Nat) (m : Int), 1 ≤ m → m + 5 * d ≤ 8000000000000000000 → ys.length = n → i + d = n →
    ∃ zs, Ev (fun k => laws_markItemS.l0 k ys m (i : Int)) (m + 5 * d, zs) := by
  induction d with
  | zero =>
    intro ys i m h1 h2 hy hi
    refine ⟨ys, Ev.step (fun k => by rw [laws_markItemS.l0]) ?_⟩
    exact ev_neg (by omega) (ev_ret (by simp))
  | succ d ih =>
    intro ys i m h1 h2 hy hi
    have all : ∀ zs : List S51, zs.length = n → ∃ us, Ev (fun k => laws_markItemS.l0 k zs (wrap64 ((wrap64 ((wrap64 ((wrap64 ((wrap64 (m + 1)) + 1)) + 1)) + 1)) + 1)) (wrap64 ((i : Int) + 1))) (m + 5 * ((d + 1 : Nat) : Int), us) := by
      intro zs hz
      obtain ⟨m5, hm5⟩ : ∃ z : Int, z = m + 5 := ⟨_, rfl⟩
      obtain ⟨us, e⟩ := ih zs (i + 1) m5 (by omega) (by omega) hz (by omega)
      rw [show m5 + 5 * (d : Int) = m + 5 * ((d + 1 : Nat) : Int) by omega] at e
      refine ⟨us, ?_⟩
      rw [w64_five h1 (by omega), ← hm5, w64 (x := (i : Int) + 1) (by omega) (by omega), show ((i : Int) + 1) = ((i + 1 : Nat) : Int) by omega]
      exact e
    have pick : ∀ zs : List S51, ∃ us, zs.length = n → Ev (fun k => laws_markItemS.l0 k zs (wrap64 ((wrap64 ((wrap64 ((wrap64 ((wrap64 (m + 1)) + 1)) + 1)) + 1)) + 1)) (wrap64 ((i : Int) + 1))) (m + 5 * ((d + 1 : Nat) : Int), us) := by
      intro zs
      by_cases hz : zs.length = n
      · obtain ⟨us, e⟩ := all zs hz
        exact ⟨us, fun _ => e⟩
      · exact ⟨zs, fun h => absurd h hz⟩
    have hF := fun zs => Classical.choose_spec (pick zs)
    apply Exists.intro
    refine Ev.step (fun k => by rw [laws_markItemS.l0]) ?_
    exact ev_pos (by omega) (ev_pos (by omega) (ev_some (ev_bind (markText_next h1 (by omega)) (ev_some (ev_some (ev_some (hF _ (by simp only [List.length_set]; exact hy))))))))
theorem laws_markItemS_ev (l : List S51) (hl : l.length ≤ 1048576) : ∃ zs, Ev (fun k => laws_markItemS.f k l 1) (1 + 5 * (l.length : Int), zs) :=
  laws_markItemS_l0 l.length hl l.length l 0 1 (by omega) (by omega) rfl (by omega)

/-! ### FnExactPutItems -/
theorem laws_szItemS_at (l : List S49) (hl : l.length ≤ maxLen) (hs : ∀ x ∈ l, x.f1.size ≤ 140737488351232) (left : Int) (h0 : 0 ≤ left) (h1 : left ≤ 1048576) :
    ∃ v, Ev (fun k => laws_szItemS.f k l left) v ∧ (0 ≤ v → l.length ≤ 1048576 ∧ ∀ x ∈ l, x.f1.size ≤ 1048576) := by
  unfold maxLen at hl
  by_cases h : (l.length : Int) ≤ left
  · obtain ⟨v, ev, hv⟩ := laws_szItemS_l0 l (by omega) hs l.length 0 (left - l.length) (by omega) (by omega) (by omega)
    refine ⟨v, ?_, fun h0 => ⟨by omega, hv h0⟩⟩
    unfold laws_szItemS.f
    rw [w64 (by omega) (by omega)]
    exact ev_neg (by omega) ev
  · refine ⟨-1, ?_, fun h0 => by omega⟩
    unfold laws_szItemS.f
    rw [w64 (by omega) (by omega)]
    exact ev_pos (by omega) (ev_ret rfl)
theorem FnExactPutItems : laws_FnExactPutItems.Pure := by
  intro l b its hl hz hw wb hl2 hz2 hw2
  refine Ev.rounds (r := true) ?_
  refine ev_bind (ev_eq (laws_szStore_eq l 1048576 (by omega) (by omega) hl)) ?_
  by_cases h : (l.length : Int) ≤ 1048576
  · rw [if_pos h]
    obtain ⟨v, ev, hv⟩ := laws_szItemS_at its hl2 (fun x hx => (hw2 x hx).2.1) (1048576 - l.length) (by omega) (by omega)
    refine ev_neg (by omega) (ev_bind ev (ev_ite (fun _ => ev_ret rfl) (fun h0 => ?_)))
    obtain ⟨hb, hs⟩ := hv (by omega)
    have hlb : l.length ≤ 70368744177664 := by omega
    have et := laws_toItemS_ev its hb
    have hi : ∀ x ∈ its.map toI, (-2147483648 ≤ x.f2 ∧ x.f2 ≤ 2147483647) ∧ x.f1.size ≤ 1048576 := by
      intro x hx
      obtain ⟨y, hy, rfl⟩ := List.mem_map.1 hx
      exact ⟨wf_i32 (hw2 y hy).2.2.1, hs y hy⟩
    have hlen : (its.map toI).length ≤ 1048576 := by rw [List.length_map]; exact hb
    generalize its.map toI = xs at et hi hlen
    have e1 := spec_PutItems_ev l b xs (by omega) hlen (fun x hx => (hi x hx).1)
    have e2 := impl_PutItems_ev l b xs (by omega) hlen (fun x hx => (hi x hx).1) (fun x hx => (hi x hx).2)
    have hc : (if (unparse (xs.map itOf)).2 = true then putBlock l b (unparse (xs.map itOf)).1 else ([], false)).1.length ≤ 1048576 := by
      split
      · exact putBlock_length (by omega)
      · simp
    obtain ⟨zs, em0⟩ := laws_markItemS_l0 xs.length hlen xs.length xs 0 (1 + (l.length : Int)) (by omega) (by omega) rfl (by omega)
    have em : Ev (fun k => laws_markItemS.f k xs (1 + (l.length : Int))) (1 + (l.length : Int) + 5 * (xs.length : Int), zs) := em0
    generalize (if (unparse (xs.map itOf)).2 = true then putBlock l b (unparse (xs.map itOf)).1 else ([], false)) = r at e1 e2 hc
    obtain ⟨t, ok⟩ := r
    simp only at hc
    have hcb : t.length ≤ 70368744177664 := by omega
    refine ev_bind (laws_toStore_ev l hlb) (ev_bind et (ev_bind e1 (ev_bind (laws_toStore_ev l hlb) (ev_bind et (ev_bind e2 (ev_bind (laws_eqStore_ev t hcb) (ev_pos rfl ?_)))))))
    refine Ev.step (fun k => by rw [laws_FnExactPutItems.j0]) ?_
    refine ev_neg (by simp) (ev_bind (laws_toStore_ev l hlb) (ev_bind (laws_eqStore_ev l hlb) (ev_pos rfl (ev_bind et (ev_bind (laws_eqItemS_ev xs (by omega)) (ev_pos rfl ?_))))))
    refine ev_bind (laws_markStore_ev l hlb 1 (by omega) (by omega)) (ev_bind em (ev_neg (by simp only; omega) (ev_bind (laws_eqStore_ev t hcb) (ev_pos rfl ?_))))
    refine Ev.step (fun k => by rw [laws_FnExactPutItems.j1]) ?_
    refine ev_neg (by simp) (ev_bind (laws_markStore_ev t hcb 1 (by omega) (by omega)) (ev_bind (laws_heldStore_ev _ hcb 1 (by omega) (by omega)) (ev_neg (by omega) (ev_pos rfl ?_))))
    refine ev_bind (laws_toStore_ev l hlb) (ev_bind et (ev_bind e2 (ev_bind (laws_eqStore_ev t hcb) (ev_pos rfl ?_))))
    refine Ev.step (fun k => by rw [laws_FnExactPutItems.j2]) ?_
    exact ev_neg (by simp) (ev_bind (laws_heldStore_ev _ hcb 1 (by omega) (by omega)) (ev_neg (by omega) (ev_pos rfl (ev_ret rfl))))
  · rw [if_neg h]
    exact ev_pos (by omega) (ev_ret rfl)

end Go.Proofs.Ytkkiibjnpkjijaa.Pure
