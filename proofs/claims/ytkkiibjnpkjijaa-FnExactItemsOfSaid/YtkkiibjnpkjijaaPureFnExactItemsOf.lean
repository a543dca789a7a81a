/-
The law FnExactItemsOf holds of the printed plain functions, for all arguments that the printed bounds allow.
-/
import Derived.Test.YtkkiibjnpkjijaaQFnExactItemsOfx1
import Derived.Test.YtkkiibjnpkjijaaQFnExactItemsOfx2
import Derived.Test.YtkkiibjnpkjijaaQFnExactItemsOfx3
import Derived.Test.YtkkiibjnpkjijaaQFnExactItemsOfx4
import Derived.Test.YtkkiibjnpkjijaaQFnExactItemsOfx5
import Derived.Test.YtkkiibjnpkjijaaQFnExactItemsOfx6
import Derived.Test.YtkkiibjnpkjijaaQFnExactItemsOfx7
import Derived.Test.YtkkiibjnpkjijaaQFnExactItemsOfx8
import Derived.Test.YtkkiibjnpkjijaaQFnExactItemsOfx9
import Derived.Test.YtkkiibjnpkjijaaQFnExactItemsOfx10
import Derived.Test.YtkkiibjnpkjijaaQFnExactItemsOfx11
import Derived.Test.YtkkiibjnpkjijaaQFnExactItemsOfx12
import Derived.Test.YtkkiibjnpkjijaaQFnExactItemsOfx13
import Derived.Test.YtkkiibjnpkjijaaQFnExactItemsOfx14
import Derived.Test.YtkkiibjnpkjijaaQFnExactItemsOfx15
import Derived.Test.YtkkiibjnpkjijaaQFnExactItemsOfx16
import Derived.Test.YtkkiibjnpkjijaaQFnExactItemsOfx17
import Derived.Test.YtkkiibjnpkjijaaTools
import Derived.Test.YtkkiibjnpkjijaaLetters
import Derived.Test.YtkkiibjnpkjijaaHeads
import Derived.Test.YtkkiibjnpkjijaaSpots
import Derived.Test.YtkkiibjnpkjijaaNames
import Derived.Test.YtkkiibjnpkjijaaItems
import Derived.Test.YtkkiibjnpkjijaaNums
import Derived.Test.YtkkiibjnpkjijaaRound
import Derived.Test.YtkkiibjnpkjijaaDraws
import Derived.Test.YtkkiibjnpkjijaaCells
import Derived.Test.YtkkiibjnpkjijaaStores
import Derived.Test.YtkkiibjnpkjijaaPuts
import Derived.Test.YtkkiibjnpkjijaaParse
namespace Go.Proofs.Ytkkiibjnpkjijaa.Pure
open Go.RowKit Go.Proofs.Ytkkiibjnpkjijaa.QFnExactItemsOf Go.Proofs.YtkkiibjnpkjijaaW.PrintWords Go.Proofs.YtkkiibjnpkjijaaW.PrintLast Go.Proofs.YtkkiibjnpkjijaaW.PrintMore Go.Proofs.Ytkkiibjnpkjijaa.Tools Go.Proofs.Ytkkiibjnpkjijaa.Plain
set_option linter.unusedVariables false

/-! ### laws_eqUint32S -/
theorem laws_eqUint32S_l0 (l : List Int) (hl : l.length ≤ 70368744177664) (d : Nat) : ∀ (i : Nat), i + d = l.length → Ev (fun k => laws_eqUint32S.l0 k l l (i : Int)) true := by
  induction d with
  | zero =>
    intro i hi
    refine Ev.step (fun k => by rw [laws_eqUint32S.l0]) ?_
    exact ev_neg (by omega) (ev_ret rfl)
  | succ d ih =>
    intro i hi
    refine Ev.step (fun k => by rw [laws_eqUint32S.l0]) ?_
    refine ev_pos (by omega) (ev_pos (by omega) (ev_pos (by omega) (ev_pos rfl ?_)))
    rw [w64 (by omega) (by omega), show ((i : Int) + 1) = ((i + 1 : Nat) : Int) by omega]
    exact ih (i + 1) (by omega)
theorem laws_eqUint32S_ev (l : List Int) (hl : l.length ≤ 70368744177664) : Ev (fun k => laws_eqUint32S.f k l l) true :=
  ev_pos rfl (laws_eqUint32S_l0 l hl l.length 0 (by omega))

/-! ### laws_eqStore -/
theorem laws_eqStore_ev (l : List Int) (hl : l.length ≤ 70368744177664) : Ev (fun k => laws_eqStore.f k l l) true :=
  ev_bind (laws_eqUint32S_ev l hl) (ev_pos rfl (ev_ret rfl))

/-! ### laws_markUint32S -/
theorem laws_markUint32S_l0 (n : Nat) (hn : n ≤ 70368744177664) (d : Nat) : ∀ (ys : List Int) (i : Nat) (m : Int), 1 ≤ m → m + d ≤ 9000000000000000000 → ys.length = n → i + d = n →
    Ev (fun k => laws_markUint32S.l0 k ys m (i : Int)) (m + d, ys.take i ++ marksU m d) := by
  induction d with
  | zero =>
    intro ys i m h1 h2 hy hi
    refine Ev.step (fun k => by rw [laws_markUint32S.l0]) ?_
    refine ev_neg (by omega) (ev_ret ?_)
    rw [List.take_of_length_le (by omega)]; simp [marksU]
  | succ d ih =>
    intro ys i m h1 h2 hy hi
    refine Ev.step (fun k => by rw [laws_markUint32S.l0]) ?_
    refine ev_pos (by omega) (ev_pos (by omega) ?_)
    rw [w64 (by omega) (by omega), w64 (by omega) (by omega), show ((i : Int) + 1) = ((i + 1 : Nat) : Int) by omega]
    refine ev_to (ih _ (i + 1) (m + 1) (by omega) (by omega) (by simp [hy]) (by omega)) ?_
    simp only [Int.toNat_natCast]
    rw [List.take_succ_eq_append_getElem (by simp; omega), List.take_set_of_le (by omega), List.append_assoc]
    simp [marksU]; omega
theorem laws_markUint32S_ev (l : List Int) (hl : l.length ≤ 70368744177664) (m : Int) (h1 : 1 ≤ m) (h2 : m ≤ 1000000000000000000) : Ev (fun k => laws_markUint32S.f k l m) (m + l.length, marksU m l.length) :=
  laws_markUint32S_l0 l.length hl l.length l 0 m h1 (by omega) rfl (by omega)

/-! ### laws_markStore -/
theorem laws_markStore_ev (l : List Int) (hl : l.length ≤ 70368744177664) (m : Int) (h1 : 1 ≤ m) (h2 : m ≤ 1000000000000000000) : Ev (fun k => laws_markStore.f k l m) (m + l.length, marksU m l.length) :=
  ev_bind (laws_markUint32S_ev l hl m h1 h2) (ev_ret rfl)

/-! ### laws_szUint32S -/
theorem laws_szUint32S_eq (l : List Int) (left : Int) (h0 : 0 ≤ left) (h1 : left ≤ 1048576) (hl : l.length ≤ maxLen) : laws_szUint32S.f l left = some (if (l.length : Int) ≤ left then left - l.length else -1) := by
  unfold laws_szUint32S.f
  unfold maxLen at hl
  rw [w64 (by omega) (by omega)]
  by_cases h : (l.length : Int) ≤ left
  · rw [if_pos h, if_neg (by omega)]
  · rw [if_neg h, if_pos (by omega)]

/-! ### laws_szStore -/
theorem laws_szStore_eq (l : List Int) (left : Int) (h0 : 0 ≤ left) (h1 : left ≤ 1048576) (hl : l.length ≤ maxLen) : laws_szStore.f l left = some (if (l.length : Int) ≤ left then left - l.length else -1) := by
  unfold laws_szStore.f
  rw [laws_szUint32S_eq l left h0 h1 hl]
  simp only [Option.bind_some]
  by_cases h : (l.length : Int) ≤ left
  · rw [if_pos h, if_neg (by omega)]
  · rw [if_neg h, if_pos (by omega)]

/-! ### laws_toUint32S -/
theorem laws_toUint32S_l0 (l : List Int) (hl : l.length ≤ 70368744177664) (d : Nat) : ∀ (ys : List Int) (i : Nat), ys.length = l.length → i + d = l.length → ys.take i = l.take i →
    Ev (fun k => laws_toUint32S.l0 k l ys (i : Int)) l := by
  induction d with
  | zero =>
    intro ys i hy hi ht
    refine Ev.step (fun k => by rw [laws_toUint32S.l0]) ?_
    refine ev_neg (by omega) (ev_ret ?_)
    rw [List.take_of_length_le (by omega), List.take_of_length_le (by omega)] at ht
    exact ht
  | succ d ih =>
    intro ys i hy hi ht
    refine Ev.step (fun k => by rw [laws_toUint32S.l0]) ?_
    refine ev_pos (by omega) (ev_pos (by omega) (ev_pos (by omega) ?_))
    rw [w64 (by omega) (by omega), show ((i : Int) + 1) = ((i + 1 : Nat) : Int) by omega]
    refine ih _ (i + 1) (by simp [hy]) (by omega) ?_
    rw [rd_nat (by omega)]
    simp only [Int.toNat_natCast]
    rw [List.take_succ_eq_append_getElem (by simp; omega), List.take_succ_eq_append_getElem (by omega : i < l.length)]
    rw [List.take_set_of_le (by omega), ht]
    simp
theorem laws_toUint32S_ev (l : List Int) (hl : l.length ≤ 70368744177664) : Ev (fun k => laws_toUint32S.f k l) l := by
  unfold laws_toUint32S.f
  refine ev_pos (by omega) (ev_pos (by simp; omega) ?_)
  exact laws_toUint32S_l0 l hl l.length _ 0 (by simp) (by omega) (by simp)

/-! ### laws_toStore -/
theorem laws_toStore_ev (l : List Int) (hl : l.length ≤ 70368744177664) : Ev (fun k => laws_toStore.f k l) l :=
  ev_bind (laws_toUint32S_ev l hl) (ev_ret rfl)

/-! ### laws_eqItem -/
theorem laws_eqItem_eq (a : Int) (b : ByteArray) (c : Int) (d : Bool) (e : Int) : laws_eqItem.f a b c d e a b c d e = some true := by
  unfold laws_eqItem.f
  rw [if_pos rfl, if_pos rfl, if_pos rfl, if_neg (by simp), if_pos rfl]

/-! ### laws_eqItemS -/
theorem laws_eqItemS_l0 (l : List S51) (hl : l.length ≤ 70368744177664) (d : Nat) : ∀ (i : Nat), i + d = l.length → Ev (fun k => laws_eqItemS.l0 k l l (i : Int)) true := by
  induction d with
  | zero =>
    intro i hi
    refine Ev.step (fun k => by rw [laws_eqItemS.l0]) ?_
    exact ev_neg (by omega) (ev_ret rfl)
  | succ d ih =>
    intro i hi
    refine Ev.step (fun k => by rw [laws_eqItemS.l0]) ?_
    refine ev_pos (by omega) (ev_pos (by omega) (ev_pos (by omega) (ev_bind (ev_eq (laws_eqItem_eq _ _ _ _ _)) (ev_pos rfl ?_))))
    rw [w64 (by omega) (by omega), show ((i : Int) + 1) = ((i + 1 : Nat) : Int) by omega]
    exact ih (i + 1) (by omega)
theorem laws_eqItemS_ev (l : List S51) (hl : l.length ≤ 70368744177664) : Ev (fun k => laws_eqItemS.f k l l) true :=
  ev_pos rfl (laws_eqItemS_l0 l hl l.length 0 (by omega))

/-! ### laws_markText -/
theorem strOf_size (l : List Int) : (strOfNums l).size = l.length := by
  show ((l.map fun n => UInt8.ofNat n.toNat).toArray).size = l.length
  simp
theorem laws_markText_l0 (n : Nat) : ∀ (x : Int) (t : ByteArray), 0 ≤ x → x < 10 ^ n → x ≤ 9000000000000000000 → t.size + n ≤ 1000000 → ∃ r, Ev (fun k => laws_markText.l0 k x t) r := by
  induction n with
  | zero =>
    intro x t h0 h1 h2 h3
    refine ⟨⟨#[109]⟩ ++ t, Ev.step (fun k => by rw [laws_markText.l0]) ?_⟩
    exact ev_neg (by simp at h1; omega) (ev_pos (by omega) (ev_ret rfl))
  | succ n ih =>
    intro x t h0 h1 h2 h3
    by_cases hx : x > 0
    · have hd : Int.tdiv x 10 = x / 10 := Int.tdiv_eq_ediv_of_nonneg h0
      obtain ⟨r, hr⟩ := ih (x / 10) (strOfNums [(wrap64 (48 + (Int.tmod x 10))) % 256] ++ t) (by omega) (by rw [Int.pow_succ] at h1; omega) (by omega) (by rw [ByteArray.size_append, strOf_size]; simp only [List.length_cons, List.length_nil]; omega)
      refine ⟨r, Ev.step (fun k => by rw [laws_markText.l0]) ?_⟩
      refine ev_pos hx (ev_some (ev_pos ?_ ?_))
      · rw [strOf_size]; simp only [List.length_cons, List.length_nil]; omega
      · rw [hd, w64 (x := x / 10) (by omega) (by omega)]; exact hr
    · refine ⟨⟨#[109]⟩ ++ t, Ev.step (fun k => by rw [laws_markText.l0]) ?_⟩
      exact ev_neg hx (ev_pos (by omega) (ev_ret rfl))
theorem laws_markText_some (m : Int) (h1 : 1 ≤ m) (h2 : m ≤ 9000000000000000000) : ∃ r, Ev (fun k => laws_markText.f k m) r := by
  obtain ⟨r, hr⟩ := laws_markText_l0 19 m ⟨#[]⟩ (by omega) (by omega) h2 (by decide)
  exact ⟨r, ev_neg (by omega) hr⟩
open Classical in
/-- What markText tells. -/
noncomputable def mtext (m : Int) : ByteArray := if h : ∃ r, Ev (fun k => laws_markText.f k m) r then Classical.choose h else ⟨#[]⟩
theorem laws_markText_ev (m : Int) (h1 : 1 ≤ m) (h2 : m ≤ 9000000000000000000) : Ev (fun k => laws_markText.f k m) (mtext m) := by
  have h := laws_markText_some m h1 h2
  unfold mtext
  rw [dif_pos h]
  exact Classical.choose_spec h
noncomputable def marksS (m : Int) : Nat → List ByteArray
  | 0 => []
  | d + 1 => mtext m :: marksS (m + 1) d
theorem marksS_length (d : Nat) : ∀ m, (marksS m d).length = d := by
  induction d with
  | zero => intro m; rfl
  | succ d ih => intro m; simp [marksS, ih]

/-! ### laws_markItemS -/
theorem w64_five {m : Int} (h1 : 1 ≤ m) (h2 : m ≤ 9000000000000000000) : wrap64 ((wrap64 ((wrap64 ((wrap64 ((wrap64 (m + 1)) + 1)) + 1)) + 1)) + 1) = m + 5 := by
  rw [w64 (x := m + 1) (by omega) (by omega), w64 (x := m + 1 + 1) (by omega) (by omega), w64 (x := m + 1 + 1 + 1) (by omega) (by omega), w64 (x := m + 1 + 1 + 1 + 1) (by omega) (by omega), w64 (x := m + 1 + 1 + 1 + 1 + 1) (by omega) (by omega)]
  omega
theorem markText_next {m : Int} (h1 : 1 ≤ m) (h2 : m ≤ 8000000000000000000) : Ev (fun k => laws_markText.f k (wrap64 (m + 1))) (mtext (m + 1)) := by
  rw [w64 (x := m + 1) (by omega) (by omega)]
  exact laws_markText_ev (m + 1) (by omega) (by omega)
theorem laws_markItemS_l0 (n : Nat) (hn : n ≤ 1048576) (d : Nat) : ∀ (ys : List S51) (i : Nat) (m : Int), 1 ≤ m → m + 5 * d ≤ 8000000000000000000 → ys.length = n → i + d = n →
    ∃ zs, Ev (fun k => laws_markItemS.l0 k ys m (i : Int)) (m + 5 * d, zs) := by
  induction d with
  | zero =>
    intro ys i m h1 h2 hy hi
    refine ⟨ys, Ev.step (fun k => by rw [laws_markItemS.l0]) ?_⟩
    exact ev_neg (by omega) (ev_ret (by simp))
  | succ d ih =>
    intro ys i m h1 h2 hy hi
    have all : ∀ zs : List S51, zs.length = n → ∃ us, Ev (fun k => laws_markItemS.l0 k zs (wrap64 ((wrap64 ((wrap64 ((wrap64 ((wrap64 (m + 1)) + 1)) + 1)) + 1)) + 1)) (wrap64 ((i : Int) + 1))) (m + 5 * ((d + 1 : Nat) : Int), us) := by
      intro zs hz
      obtain ⟨m5, hm5⟩ : ∃ z : Int, z = m + 5 := ⟨_, rfl⟩
      obtain ⟨us, e⟩ := ih zs (i + 1) m5 (by omega) (by omega) hz (by omega)
      rw [show m5 + 5 * (d : Int) = m + 5 * ((d + 1 : Nat) : Int) by omega] at e
      refine ⟨us, ?_⟩
      rw [w64_five h1 (by omega), ← hm5, w64 (x := (i : Int) + 1) (by omega) (by omega), show ((i : Int) + 1) = ((i + 1 : Nat) : Int) by omega]
      exact e
    have pick : ∀ zs : List S51, ∃ us, zs.length = n → Ev (fun k => laws_markItemS.l0 k zs (wrap64 ((wrap64 ((wrap64 ((wrap64 ((wrap64 (m + 1)) + 1)) + 1)) + 1)) + 1)) (wrap64 ((i : Int) + 1))) (m + 5 * ((d + 1 : Nat) : Int), us) := by
      intro zs
      by_cases hz : zs.length = n
      · obtain ⟨us, e⟩ := all zs hz
        exact ⟨us, fun _ => e⟩
      · exact ⟨zs, fun h => absurd h hz⟩
    have hF := fun zs => Classical.choose_spec (pick zs)
    apply Exists.intro
    refine Ev.step (fun k => by rw [laws_markItemS.l0]) ?_
    exact ev_pos (by omega) (ev_pos (by omega) (ev_some (ev_bind (markText_next h1 (by omega)) (ev_some (ev_some (ev_some (hF _ (by simp only [List.length_set]; exact hy))))))))
theorem laws_markItemS_ev (l : List S51) (hl : l.length ≤ 1048576) : ∃ zs, Ev (fun k => laws_markItemS.f k l 1) (1 + 5 * (l.length : Int), zs) :=
  laws_markItemS_l0 l.length hl l.length l 0 1 (by omega) (by omega) rfl (by omega)

/-! ### laws_heldItemS -/
theorem rd_setI (l : List S51) (i : Nat) (v : S51) (h : i < l.length) : rd_T51 (l.set i v) (i : Int) = v := by simp [rd_T51, h]
/-- What the law writes into an item, from m on. -/
noncomputable def markI (m : Int) : S51 := ⟨m, mtext (m + 1), wrap32 (m + 2), (Int.tmod (m + 3) 3 == 0), (m + 4) % 4294967296⟩
noncomputable def marksI (m : Int) : Nat → List S51
  | 0 => []
  | d + 1 => markI m :: marksI (m + 5) d
theorem marksI_length (d : Nat) : ∀ m, (marksI m d).length = d := by
  induction d with
  | zero => intro m; rfl
  | succ d ih => intro m; simp [marksI, ih]
theorem w64_next {m : Int} (h1 : 1 ≤ m) (h2 : m ≤ 9000000000000000000) : wrap64 (m + 1) = m + 1 ∧ wrap64 (m + 1 + 1) = m + 2 ∧ wrap64 (m + 2 + 1) = m + 3 ∧ wrap64 (m + 3 + 1) = m + 4 ∧ wrap64 (m + 4 + 1) = m + 5 := by
  refine ⟨?_, ?_, ?_, ?_, ?_⟩
  · rw [w64 (by omega) (by omega)]
  · rw [w64 (by omega) (by omega)]; omega
  · rw [w64 (by omega) (by omega)]; omega
  · rw [w64 (by omega) (by omega)]; omega
  · rw [w64 (by omega) (by omega)]; omega
theorem laws_markItemS_at (n : Nat) (hn : n ≤ 1048576) (d : Nat) : ∀ (ys : List S51) (i : Nat) (m : Int), 1 ≤ m → m + 5 * d ≤ 8000000000000000000 → ys.length = n → i + d = n →
    Ev (fun k => laws_markItemS.l0 k ys m (i : Int)) (m + 5 * d, ys.take i ++ marksI m d) := by
  induction d with
  | zero =>
    intro ys i m h1 h2 hy hi
    refine Ev.step (fun k => by rw [laws_markItemS.l0]) ?_
    refine ev_neg (by omega) (ev_ret ?_)
    rw [marksI, List.append_nil, List.take_of_length_le (by omega)]
    simp
  | succ d ih =>
    intro ys i m h1 h2 hy hi
    have hlt : i < ys.length := by omega
    obtain ⟨e1, e2, e3, e4, e5⟩ := w64_next (m := m) h1 (by omega)
    have next := ih (ys.set i (markI m)) (i + 1) (m + 5) (by omega) (by omega) (by rw [List.length_set]; exact hy) (by omega)
    rw [List.take_succ_eq_append_getElem (by rw [List.length_set]; omega), List.take_set_of_le (Nat.le_refl _), List.getElem_set_self, List.append_assoc, List.singleton_append] at next
    have hmt := markText_next (m := m) h1 (by omega)
    refine Ev.step (fun k => by rw [laws_markItemS.l0]) ?_
    rw [e1] at hmt ⊢
    rw [e2, e3, e4, e5, w64 (x := (i : Int) + 1) (by omega) (by omega), show ((i : Int) + 1) = ((i + 1 : Nat) : Int) by omega, Int.toNat_natCast]
    refine ev_pos (by omega) (ev_pos (by omega) (ev_some (ev_bind hmt (ev_some (ev_some (ev_some ?_))))))
    have hl : ∀ v : S51, i < (ys.set i v).length := fun v => by rw [List.length_set]; exact hlt
    simp only [rd_setI _ _ _ hlt, List.set_set]
    refine ev_to next ?_
    rw [marksI, show m + 5 + 5 * (d : Int) = m + 5 * ((d + 1 : Nat) : Int) by omega]
theorem laws_heldItemS_l0 (d : Nat) : ∀ (ys : List S51) (i : Nat) (m : Int), 1 ≤ m → m + 5 * d ≤ 8000000000000000000 → i + d = ys.length → ys.length ≤ 1048576 → ys.drop i = marksI m d → Ev (fun k => laws_heldItemS.l0 k ys m (i : Int)) (m + 5 * d) := by
  induction d with
  | zero =>
    intro ys i m h1 h2 hi hn hd
    refine Ev.step (fun k => by rw [laws_heldItemS.l0]) ?_
    exact ev_neg (by omega) (ev_ret (by simp))
  | succ d ih =>
    intro ys i m h1 h2 hi hn hd
    have hlt : i < ys.length := by omega
    rw [List.drop_eq_getElem_cons hlt, marksI] at hd
    injection hd with hd1 hd2
    have e : rd_T51 ys (i : Int) = markI m := by rw [← hd1]; simp [rd_T51, List.getElem?_eq_getElem hlt]
    obtain ⟨e1, e2, e3, e4, e5⟩ := w64_next (m := m) h1 (by omega)
    have next := ih ys (i + 1) (m + 5) (by omega) (by omega) (by omega) hn hd2
    have hmt := markText_next (m := m) h1 (by omega)
    refine Ev.step (fun k => by rw [laws_heldItemS.l0]) ?_
    rw [e1] at hmt ⊢
    rw [e, e2, e3, e4, e5, w64 (x := (i : Int) + 1) (by omega) (by omega), show ((i : Int) + 1) = ((i + 1 : Nat) : Int) by omega]
    refine ev_pos (by omega) (ev_pos (by omega) (ev_pos rfl (ev_bind hmt (ev_pos rfl (ev_pos rfl (ev_neg (by simp [markI]) (ev_pos rfl ?_)))))))
    exact ev_to next (by omega)
theorem laws_marks (l : List S51) (hl : l.length ≤ 1048576) : Ev (fun k => laws_markItemS.f k l 1) (1 + 5 * (l.length : Int), marksI 1 l.length) ∧ Ev (fun k => laws_heldItemS.f k (marksI 1 l.length) 1) (1 + 5 * (l.length : Int)) := by
  have h1 := laws_markItemS_at l.length hl l.length l 0 1 (by omega) (by omega) rfl (by omega)
  have h2 := laws_heldItemS_l0 l.length (marksI 1 l.length) 0 1 (by omega) (by omega) (by rw [marksI_length]; omega) (by rw [marksI_length]; omega) (by simp)
  rw [List.take_zero, List.nil_append] at h1
  exact ⟨h1, h2⟩

/-! ### spec_l04Tag -/
theorem spec_l04Tag_eq (k : Int) : spec_l04Tag.f k = some (tagOf k) := by
  unfold spec_l04Tag.f tagOf
  repeat' split
  all_goals rfl

/-! ### spec_l04Kind -/
theorem spec_l04Kind_l0 (t : Int) (d : Nat) : ∀ i : Nat, i + d = 7 → 1 ≤ i → (∀ j : Nat, 1 ≤ j → j < i → tagOf (j : Int) ≠ t) → Ev (fun k => spec_l04Kind.l0 k t (i : Int)) (if kindOf t = 0 then -1 else kindOf t) := by
  induction d with
  | zero =>
    intro i hi h1 hj
    refine Ev.step (fun k => by rw [spec_l04Kind.l0]) ?_
    refine ev_neg (by omega) (ev_ret ?_)
    rw [if_pos (kindOf_none (fun j a b => hj j a (by omega)))]
  | succ d ih =>
    intro i hi h1 hj
    refine Ev.step (fun k => by rw [spec_l04Kind.l0]) ?_
    refine ev_pos (by omega) (ev_bind (ev_eq (spec_l04Tag_eq _)) (ev_ite (fun h => ev_ret ?_) (fun h => ?_)))
    · rw [← h, kindOf_tagOf i h1 (by omega), if_neg (by omega)]
    · rw [w64 (by omega) (by omega), show ((i : Int) + 1) = ((i + 1 : Nat) : Int) by omega]
      refine ih (i + 1) (by omega) (by omega) (fun j a b => ?_)
      by_cases e : j = i
      · rw [e]; exact h
      · exact hj j a (by omega)
theorem spec_l04Kind_ev (t : Int) : Ev (fun k => spec_l04Kind.f k t) (if kindOf t = 0 then -1 else kindOf t) := spec_l04Kind_l0 t 6 1 (by omega) (by omega) (fun j a b => by omega)

/-! ### spec_l01In -/
theorem spec_l01In_eq (a b c : Int) : spec_l01In.f a b c = some (decide (b ≤ a ∧ a ≤ c)) := by
  unfold spec_l01In.f
  by_cases h : b ≤ a
  · rw [if_pos h]; simp [h]
  · rw [if_neg h]; simp [h]

/-! ### spec_WidthOf -/
theorem spec_WidthOf_eq (k : Int) : spec_WidthOf.f k = some (widthOf k) := by
  unfold spec_WidthOf.f widthOf
  simp only [spec_l01In_eq, Option.bind_some, decide_eq_true_eq]
  by_cases h1 : 0 ≤ k ∧ k ≤ 7
  · rw [if_pos h1, if_pos h1]
  rw [if_neg h1, if_neg h1]
  by_cases h2 : 8 ≤ k ∧ k ≤ 15
  · rw [if_pos h2, if_pos h2]
  rw [if_neg h2, if_neg h2]
  by_cases h3 : 16 ≤ k ∧ k ≤ 47
  · rw [if_pos h3, if_pos h3]
  rw [if_neg h3, if_neg h3]

/-! ### spec_BitsOf -/
theorem spec_BitsOf_eq (k : Int) : spec_BitsOf.f k = some (bitsOf k) := by
  unfold spec_BitsOf.f
  simp only [spec_WidthOf_eq, Option.bind_some]
  rcases width_cases k with ⟨e1, e2, h⟩ | ⟨e1, e2, h⟩ | ⟨e1, e2, h⟩ | ⟨e1, e2, h⟩ <;> rw [e1, e2] <;> simp
  · omega
  · rw [w64 (by omega) (by omega)]; omega
  · rw [w64 (by omega) (by omega)]; omega

/-! ### spec_Decode -/
theorem spec_Decode_l0 (x n : Int) (hx : 0 ≤ x ∧ x ≤ 4294967295) (hn : 1 ≤ n ∧ n ≤ 32) (d : Nat) (hd : d ≤ 48) : Ev (fun k => spec_Decode.l0 k x n (48 - (d : Int))) (decFrom x n d) := by
  induction d with
  | zero =>
    refine Ev.step (fun k => by rw [spec_Decode.l0]) ?_
    refine ev_neg (by omega) (ev_ret ?_)
    rfl
  | succ d ih =>
    refine Ev.step (fun k => by rw [spec_Decode.l0]) ?_
    refine ev_pos (by omega) (ev_bind (ev_eq (spec_WidthOf_eq _)) ?_)
    have e : (48 : Int) - ((d + 1 : Nat) : Int) = 47 - d := by omega
    have hw := width_in (k := 47 - (d : Int)) (by omega) (by omega)
    rw [e, decFrom, w64 (by omega) (by omega), show ((47 : Int) - d + 1) = 48 - d by omega]
    by_cases h : widthOf (47 - d) ≤ n
    · refine ev_neg (by omega) (ev_pos (by rw [wu64 (by omega) (by omega)]; omega) (ev_pos (by rw [w64 (by omega) (by omega), wu64 (by omega) (by omega)]; omega) (ev_bind (ev_eq (spec_BitsOf_eq _)) ?_)))
      rw [w64 (x := bitsOf _) (by omega) (by have := hw.2.2.2; have := two_pow_le (a := (widthOf (47 - (d : Int))).toNat) (b := 7) (by omega); omega)]
      rw [spec_head x n (widthOf (47 - d)) hx hn (by omega) h]
      have hh : hit x n (47 - d) ↔ x / 2 ^ (n - widthOf (47 - d)).toNat % 2 ^ (widthOf (47 - d)).toNat = bitsOf (47 - d) := ⟨fun k => k.2, fun k => ⟨h, k⟩⟩
      by_cases h' : hit x n (47 - d)
      · rw [if_pos h']; exact ev_pos (hh.1 h') (ev_ret rfl)
      · rw [if_neg h']; exact ev_neg (fun k => h' (hh.2 k)) (ih (by omega))
    · rw [if_neg (fun k => h k.1)]
      exact ev_pos (by omega) (ih (by omega))
theorem spec_Decode_ev (x n : Int) (hx : 0 ≤ x ∧ x ≤ 4294967295) : Ev (fun k => spec_Decode.f k x n) (dcode x n) := by
  refine ev_bind (ev_eq (spec_l01In_eq _ _ _)) ?_
  unfold dcode
  by_cases h : 1 ≤ n ∧ n ≤ 32
  · rw [if_pos h]; exact ev_pos (decide_eq_true h) (spec_Decode_l0 x n hx h 48 (by omega))
  · rw [if_neg h]; exact ev_neg (by simp only [decide_eq_true_eq]; exact h) (ev_ret rfl)

/-! ### spec_LetterAt -/
theorem spec_LetterAt_eq (k : Int) : spec_LetterAt.f k = some (if 0 ≤ k ∧ k ≤ 47 then bt lettersB k else 0) := by
  unfold spec_LetterAt.f spec_l02All.f
  simp only [spec_l01In_eq, Option.bind_some, decide_eq_true_eq]
  by_cases h : 0 ≤ k ∧ k ≤ 47
  · rw [if_pos h, if_pos h, if_pos h.1, if_pos (by show k < 48; omega)]; rfl
  · rw [if_neg h, if_neg h]

/-! ### spec_UnpackOne -/
theorem spec_UnpackOne_l0 (f : Int) (hf : 0 ≤ f ∧ f < 268435456) (d : Nat) : ∀ (acc : List UInt8) (left : Int), 0 ≤ left → left ≤ 28 → left ≤ 4 * d → acc.length + d ≤ 8 →
    Ev (fun k => spec_UnpackOne.l0 k f (acc.map (fun b => (b.toNat : Int))) left) (toB (acc ++ upk f d left)) := by
  induction d with
  | zero =>
    intro acc left h0 h1 h2 h3
    refine Ev.step (fun k => by rw [spec_UnpackOne.l0]) ?_
    refine ev_neg (by omega) ?_
    refine Ev.step (fun k => by rw [spec_UnpackOne.j1]) ?_
    refine ev_neg (by simp) (ev_ret ?_)
    rw [strOf_map]; simp [upk]
  | succ d ih =>
    intro acc left h0 h1 h2 h3
    rw [upk]
    by_cases hz : left = 0
    · subst hz
      refine Ev.step (fun k => by rw [spec_UnpackOne.l0]) ?_
      refine ev_neg (by omega) ?_
      refine Ev.step (fun k => by rw [spec_UnpackOne.j1]) ?_
      refine ev_neg (by simp) (ev_ret ?_)
      rw [strOf_map, if_pos (by simp)]; simp
    · refine Ev.step (fun k => by rw [spec_UnpackOne.l0]) ?_
      refine ev_pos (by omega) (ev_pos (by rw [wu64 (by omega) (by omega)]; omega) ?_)
      have := two_pow_le (a := left.toNat) (b := 28) (by omega)
      have := two_pow_pos left.toNat
      rw [w64 (x := f) (by omega) (by omega), wu64 (x := left) (by omega) (by omega), shl1_i64 (by omega) (by omega), w64 (by omega) (by omega), and_i64 (by omega) (by omega)]
      by_cases hm : f % 2 ^ left.toNat = 0
      · rw [if_pos hm]
        refine Ev.step (fun k => by rw [spec_UnpackOne.j1]) ?_
        refine ev_neg (by simp [hm]) (ev_ret ?_)
        rw [strOf_map]; simp
      · rw [if_neg hm]
        refine Ev.step (fun k => by rw [spec_UnpackOne.j1]) ?_
        refine ev_pos (by simp [hm]) (ev_bind (spec_Decode_ev f left (by omega)) ?_)
        have hd := dcode_range f left
        by_cases hk : (dcode f left).1 < 1
        · rw [if_pos hk]
          refine ev_pos hk (ev_ret ?_)
          rw [strOf_map]; simp
        · rw [if_neg hk]
          refine ev_neg hk (ev_bind (ev_eq (spec_LetterAt_eq _)) (ev_pos (by simp; omega) ?_))
          rw [if_pos (by omega), bt_letter (by omega) (by omega), w64 (by omega) (by omega), map_snoc]
          refine ev_to (ih (acc ++ [letter (dcode f left).1]) _ (by omega) (by omega) (by omega) (by simp; omega)) ?_
          simp
theorem spec_UnpackOne_ev (f : Int) (hf : 0 ≤ f ∧ f ≤ 4294967295) : Ev (fun k => spec_UnpackOne.f k f) (toB (unpackOne f)) := by
  unfold unpackOne
  by_cases h : f ≥ 268435456
  · rw [if_pos h]; exact ev_pos (by rw [w64 (by omega) (by omega)]; exact h) (ev_ret rfl)
  · rw [if_neg h]
    refine ev_neg (by rw [w64 (by omega) (by omega)]; exact h) ?_
    exact ev_to (spec_UnpackOne_l0 f (by omega) 8 [] 28 (by omega) (by omega) (by omega) (by simp)) (by simp)

/-! ### spec_LetterOf -/
theorem spec_LetterOf_all : ∀ b : UInt8, spec_LetterOf.f 49 (b.toNat : Int) = some (lo b) := all_bytes (by decide +kernel)
theorem spec_LetterOf_ev (b : UInt8) : Ev (fun k => spec_LetterOf.f k (b.toNat : Int)) (lo b) := Ev.of (spec_LetterOf.mono _) (spec_LetterOf_all b)

/-! ### spec_NameOk -/
theorem spec_NameOk_l0 (s : ByteArray) (hs : s.size ≤ 24) (d : Nat) : ∀ i : Nat, i + d = s.size → Ev (fun k => spec_NameOk.l0 k s (i : Int)) ((s.data.toList.drop i).all (fun b => decide (1 ≤ lo b))) := by
  induction d with
  | zero =>
    intro i hi
    refine Ev.step (fun k => by rw [spec_NameOk.l0]) ?_
    refine ev_neg (by omega) (ev_ret ?_)
    rw [List.drop_of_length_le (by rw [← size_eq]; omega)]; rfl
  | succ d ih =>
    intro i hi
    have hlt : i < s.size := by omega
    refine Ev.step (fun k => by rw [spec_NameOk.l0]) ?_
    refine ev_pos (by omega) (ev_pos (by omega) (ev_bind (by rw [bt_at hlt]; exact spec_LetterOf_ev _) ?_))
    rw [drop_cons hlt, List.all_cons]
    by_cases h : 1 ≤ lo s[i]
    · refine ev_neg (by omega) ?_
      rw [w64 (by omega) (by omega), show ((i : Int) + 1) = ((i + 1 : Nat) : Int) by omega, decide_eq_true h, Bool.true_and]
      exact ih (i + 1) (by omega)
    · refine ev_pos (by omega) (ev_ret ?_)
      rw [decide_eq_false h, Bool.false_and]
theorem spec_NameOk_ev (s : ByteArray) : Ev (fun k => spec_NameOk.f k s) (okName s.data.toList) := by
  refine ev_bind (ev_eq (spec_l01In_eq _ _ _)) ?_
  unfold okName
  rw [← size_eq]
  by_cases h : 1 ≤ (s.size : Int) ∧ (s.size : Int) ≤ 24
  · refine ev_pos (decide_eq_true h) ?_
    rw [decide_eq_true (show 1 ≤ s.size by omega), decide_eq_true (show s.size ≤ 24 by omega), Bool.true_and, Bool.true_and]
    exact spec_NameOk_l0 s (by omega) s.size 0 (by omega)
  · refine ev_neg (by simp only [decide_eq_true_eq]; exact h) (ev_ret ?_)
    by_cases h1 : 1 ≤ s.size
    · rw [decide_eq_false (show ¬ s.size ≤ 24 by omega)]; simp
    · rw [decide_eq_false h1]; simp

/-! ### spec_l03One -/
theorem spec_l03One_l0 (s : ByteArray) (hs : s.size ≤ 1000000) (hb : ∀ b ∈ s.data.toList, 1 ≤ lo b) (d : Nat) : ∀ (i : Nat) (f left : Int), i + d = s.size → 0 ≤ left → left ≤ 28 → 0 ≤ f → f + 2 ^ left.toNat ≤ 268435456 →
    Ev (fun k => spec_l03One.l0 k s f left (i : Int)) (f + (one (s.data.toList.drop i) left).1, (i : Int) + ((one (s.data.toList.drop i) left).2 : Int)) := by
  induction d with
  | zero =>
    intro i f left hi h0 h1 h2 h3
    have := two_pow_pos left.toNat
    refine Ev.step (fun k => by rw [spec_l03One.l0]) ?_
    refine ev_neg (by omega) (ev_ret ?_)
    rw [List.drop_of_length_le (by rw [← size_eq]; omega), one]
    simp; omega
  | succ d ih =>
    intro i f left hi h0 h1 h2 h3
    have hlt : i < s.size := by omega
    have hp := two_pow_pos left.toNat
    have hl1 := hb s[i] (by rw [getB hlt]; exact List.getElem_mem _)
    have hlr := lo_range s[i]
    have w := width_in (k := lo s[i]) (by omega) (by omega)
    rw [drop_cons hlt, one]
    refine Ev.step (fun k => by rw [spec_l03One.l0]) ?_
    refine ev_pos (by omega) (ev_pos (by omega) (ev_bind (by rw [bt_at hlt]; exact spec_LetterOf_ev _) (ev_bind (ev_eq (spec_WidthOf_eq _)) ?_)))
    by_cases hw : widthOf (lo s[i]) > left
    · rw [if_pos hw]
      refine ev_pos hw (ev_ret ?_)
      simp; omega
    · rw [if_neg hw]
      have e : left.toNat = (widthOf (lo s[i])).toNat + (left - widthOf (lo s[i])).toNat := by omega
      have hq := two_pow_pos (left - widthOf (lo s[i])).toNat
      have hm : (bitsOf (lo s[i]) + 1) * 2 ^ (left - widthOf (lo s[i])).toNat ≤ 2 ^ left.toNat := by
        rw [e, Int.pow_add]; exact Int.mul_le_mul_of_nonneg_right (by omega) (by omega)
      rw [Int.add_mul] at hm
      have hn := Int.mul_nonneg w.2.2.1 (show 0 ≤ (2 : Int) ^ (left - widthOf (lo s[i])).toNat by omega)
      have hb7 := two_pow_le (a := (widthOf (lo s[i])).toNat) (b := 7) (by omega)
      refine ev_neg hw (ev_bind (ev_eq (spec_BitsOf_eq _)) (ev_pos (by rw [w64 (by omega) (by omega), wu64 (by omega) (by omega)]; omega) ?_))
      rw [w64 (x := bitsOf (lo s[i])) (by omega) (by omega), w64 (x := left - widthOf (lo s[i])) (by omega) (by omega), wu64 (by omega) (by omega), shl_i64 w.2.2.1 (by omega) (by omega), w64 (by omega) (by omega), w64 (by omega) (by omega), show ((i : Int) + 1) = ((i + 1 : Nat) : Int) by omega]
      refine ev_to (ih (i + 1) _ _ (by omega) (by omega) (by omega) (by omega) (by omega)) ?_
      simp only [Prod.mk.injEq]
      constructor <;> omega
theorem spec_l03One_ev (l : List UInt8) (hl : l.length ≤ 1000000) (hb : ∀ b ∈ l, 1 ≤ lo b) : Ev (fun k => spec_l03One.f k (toB l)) ((one l 28).1, ((one l 28).2 : Int)) := by
  refine ev_to (spec_l03One_l0 (toB l) (by rw [toB_size]; exact hl) hb l.length 0 0 28 (by rw [toB_size]; omega) (by omega) (by omega) (by omega) (by decide)) ?_
  rw [toB_data]; simp

/-! ### spec_Pack -/
theorem spec_Pack_l0 (n : Nat) : ∀ (l : List UInt8) (out : List Int), l.length ≤ n → n ≤ 1000000 → (∀ b ∈ l, 1 ≤ lo b) → out.length + l.length ≤ 1000000 → Ev (fun k => spec_Pack.l0 k (toB l) out) (out ++ packF l.length l) := by
  induction n with
  | zero =>
    intro l out hl hn hb ho
    have : l = [] := List.eq_nil_of_length_eq_zero (by omega)
    subst this
    refine Ev.step (fun k => by rw [spec_Pack.l0]) ?_
    exact ev_pos (by rw [ba_toList]; rfl) (ev_ret (by simp [packF]))
  | succ n ih =>
    intro l out hl hn hb ho
    by_cases h : l = []
    · subst h
      refine Ev.step (fun k => by rw [spec_Pack.l0]) ?_
      exact ev_pos (by rw [ba_toList]; rfl) (ev_ret (by simp [packF]))
    · have h1 := one_pos h (left := 28) (by omega)
      have h2 := one_range l 28 (by omega) (by omega) hb
      refine Ev.step (fun k => by rw [spec_Pack.l0]) ?_
      refine ev_neg (by rw [ba_toList, toB_data]; exact h) (ev_bind (spec_l03One_ev l (by omega) hb) (ev_pos (by omega) (ev_pos (by simp only; omega) (ev_pos (by rw [toB_size]; simp only; omega) ?_))))
      rw [packF_step h, extract_eq, toB_data, toB_size, List.take_of_length_le (by omega)]
      simp only [Int.toNat_natCast]
      refine ev_to (ih (l.drop (one l 28).2) (out ++ [(one l 28).1]) (by rw [List.length_drop]; omega) (by omega) (fun b hb' => hb b (List.mem_of_mem_drop hb')) (by simp only [List.length_append, List.length_drop, List.length_cons, List.length_nil]; omega)) ?_
      simp
theorem spec_Pack_ev (l : List UInt8) : Ev (fun k => spec_Pack.f k (toB l)) (pack l) := by
  refine ev_some (ev_bind (spec_NameOk_ev _) ?_)
  rw [toB_data]
  unfold pack
  by_cases h : okName l = true
  · rw [if_pos h]
    obtain ⟨h1, h2, h3⟩ := (okName_iff l).1 h
    exact ev_pos h (spec_Pack_l0 l.length l [] (by omega) (by omega) h3 (by simp; omega))
  · rw [if_neg h]
    exact ev_neg h (ev_ret rfl)

/-! ### spec_l03Same -/
theorem spec_l03Same_l0 (a b : List Int) (hl : a.length ≤ 70368744177664) (he : a.length = b.length) (d : Nat) : ∀ (i : Nat), i + d = a.length → Ev (fun k => spec_l03Same.l0 k a b (i : Int)) (decide (a.drop i = b.drop i)) := by
  induction d with
  | zero =>
    intro i hi
    refine Ev.step (fun k => by rw [spec_l03Same.l0]) ?_
    refine ev_neg (by omega) (ev_ret ?_)
    rw [List.drop_of_length_le (by omega), List.drop_of_length_le (by omega)]; simp
  | succ d ih =>
    intro i hi
    refine Ev.step (fun k => by rw [spec_l03Same.l0]) ?_
    refine ev_pos (by omega) (ev_pos (by omega) (ev_pos (by omega) ?_))
    rw [rd_nat (by omega), rd_nat (by omega), List.drop_eq_getElem_cons (by omega : i < a.length), List.drop_eq_getElem_cons (by omega : i < b.length)]
    by_cases h : a[i] = b[i]
    · refine ev_pos h ?_
      rw [w64 (by omega) (by omega), show ((i : Int) + 1) = ((i + 1 : Nat) : Int) by omega]
      exact ev_to (ih (i + 1) (by omega)) (dec_cons h)
    · exact ev_neg h (ev_ret (dec_cons_ne h))
theorem spec_l03Same_ev (a b : List Int) (hl : a.length ≤ 70368744177664) : Ev (fun k => spec_l03Same.f k a b) (decide (a = b)) := by
  by_cases h : a.length = b.length
  · exact ev_pos (by omega) (ev_to (spec_l03Same_l0 a b hl h a.length 0 (by omega)) (by simp))
  · refine ev_neg (by omega) (ev_ret ?_)
    rw [decide_eq_false]
    intro e
    exact h (by rw [e])

/-! ### spec_Unpack -/
theorem spec_Unpack_l0 (list : List Int) (hl : list.length ≤ 24) (hr : ∀ x ∈ list, 0 ≤ x ∧ x ≤ 4294967295) (d : Nat) : ∀ (i : Nat) (acc : List UInt8), i + d = list.length → acc.length ≤ 8 * i →
    Ev (fun k => spec_Unpack.l0 k list (toB acc) (i : Int)) (if okName (acc ++ unpackAll (list.drop i)) = true ∧ pack (acc ++ unpackAll (list.drop i)) = list then (toB (acc ++ unpackAll (list.drop i)), true) else (toB [], false)) := by
  induction d with
  | zero =>
    intro i acc hi ha
    rw [List.drop_of_length_le (by omega)]
    refine Ev.step (fun k => by rw [spec_Unpack.l0]) ?_
    refine ev_neg (by omega) (ev_bind (spec_NameOk_ev _) ?_)
    rw [toB_data, show acc ++ unpackAll [] = acc by simp [unpackAll]]
    by_cases h : okName acc = true
    · refine ev_pos h (ev_bind (spec_Pack_ev acc) (ev_bind (spec_l03Same_ev _ _ ?_) ?_))
      · have := pack_length acc; omega
      · by_cases h2 : pack acc = list
        · refine ev_pos (by simpa using h2) ?_
          rw [if_pos ⟨h, h2⟩]
          exact ev_ret rfl
        · refine ev_neg (by simpa using h2) ?_
          rw [if_neg (fun x => h2 x.2)]
          exact ev_ret rfl
    · refine ev_neg h ?_
      rw [if_neg (fun x => h x.1)]
      exact ev_ret rfl
  | succ d ih =>
    intro i acc hi ha
    have hm := hr list[i] (List.getElem_mem _)
    have hu := unpackOne_length list[i]
    refine Ev.step (fun k => by rw [spec_Unpack.l0]) ?_
    refine ev_pos (by omega) (ev_pos (by omega) (ev_bind (by rw [rd_nat (by omega)]; exact spec_UnpackOne_ev _ hm) (ev_pos (by rw [toB_size, toB_size]; omega) ?_)))
    rw [w64 (by omega) (by omega), show ((i : Int) + 1) = ((i + 1 : Nat) : Int) by omega, toB_append]
    refine ev_to (ih (i + 1) _ (by omega) (by rw [List.length_append]; omega)) ?_
    rw [List.drop_eq_getElem_cons (by omega : i < list.length)]
    simp only [unpackAll, List.flatMap_cons, List.append_assoc]
theorem spec_Unpack_ev (list : List Int) (hr : ∀ x ∈ list, 0 ≤ x ∧ x ≤ 4294967295) : Ev (fun k => spec_Unpack.f k list) (toB (unpack list).1, (unpack list).2) := by
  unfold unpack
  by_cases h : list.length > 24
  · rw [if_pos h]; exact ev_pos (by omega) (ev_ret rfl)
  · rw [if_neg h]
    refine ev_neg (by omega) (ev_to (spec_Unpack_l0 list (by omega) hr list.length 0 [] (by omega) (by simp)) ?_)
    simp only [List.drop_zero, List.nil_append]
    split <;> rfl

/-! ### spec_l04Name -/
def nameRes (kd : Int) (F : List Int) : Int × ByteArray × Int × Bool × Int × Int := if (unpack F).2 = true then (kd, toB (unpack F).1, 0, false, 0, (F.length : Int)) else (0, ⟨#[]⟩, 0, false, 0, 0)
theorem spec_l04Name_l0 (kd : Int) (suf : List Int) : ∀ pre acc : List Int, pre.length + suf.length ≤ 1000 → acc.length ≤ pre.length + 1 → (∀ x ∈ acc, 0 ≤ x ∧ x ≤ 4294967295) → (∀ x ∈ suf, 0 ≤ x ∧ x ≤ 4294967295) →
    Ev (fun k => spec_l04Name.l0 k (pre ++ suf) kd acc (pre.length : Int)) (nameRes kd (acc ++ (tailOf suf).map (· / 16))) := by
  have leaf : ∀ acc : List Int, (∀ x ∈ acc, 0 ≤ x ∧ x ≤ 4294967295) → Ev (fun k => (spec_Unpack.f k acc).bind fun bt => (if bt.2 = true then (some (kd, bt.1, 0, false, 0, (acc.length : Int))) else (some (0, (⟨#[]⟩ : ByteArray), 0, false, 0, 0)))) (nameRes kd acc) := by
    intro acc hr
    unfold nameRes
    refine ev_bind (spec_Unpack_ev acc hr) (ev_ite (fun h => ?_) (fun h => ?_))
    · rw [if_pos h]; exact ev_ret rfl
    · rw [if_neg h]; exact ev_ret rfl
  induction suf with
  | nil =>
    intro pre acc hl ha hr hs
    refine Ev.step (fun k => by rw [spec_l04Name.l0]) ?_
    rw [tail_nil, List.map_nil, List.append_nil, List.append_nil]
    exact ev_neg (by omega) (leaf acc hr)
  | cons d suf ih =>
    intro pre acc hl ha hr hs
    have hd := hs d (by simp)
    have hlen : (pre ++ d :: suf).length = pre.length + suf.length + 1 := by rw [List.length_append, List.length_cons]; omega
    rw [List.length_cons] at hl
    refine Ev.step (fun k => by rw [spec_l04Name.l0]) ?_
    rw [rd_mid rfl, tmod_16 hd, tdiv_16 hd]
    refine ev_pos (by omega) (ev_pos (by omega) (ev_ite (fun h16 => ev_ite (fun h0 => ?_) (fun h0 => ev_pos (by omega) ?_)) (fun h16 => ?_)))
    · rw [tail_no (by omega), List.map_nil, List.append_nil]
      exact leaf acc hr
    · have e := ih (pre ++ [d]) (acc ++ [d / 16]) (by rw [List.length_append, List.length_singleton]; omega) (by rw [List.length_append, List.length_append, List.length_singleton, List.length_singleton]; omega) (fun x hx => by
        rcases List.mem_append.1 hx with hx | hx
        · exact hr x hx
        · rw [List.mem_singleton] at hx; rw [hx]; exact range_16 hd) (fun x hx => hs x (by simp [hx]))
      rw [List.append_assoc, List.singleton_append, List.append_assoc, List.singleton_append, show (pre ++ [d]).length = pre.length + 1 by simp] at e
      rw [tail_yes h16 h0, List.map_cons, w64 (by omega) (by omega), show ((pre.length : Int) + 1) = ((pre.length + 1 : Nat) : Int) by omega]
      exact e
    · rw [tail_no (by omega), List.map_nil, List.append_nil]
      exact leaf acc hr
theorem spec_l04Name_ev (pre : List Int) (c : Int) (rest : List Int) (kd : Int) (hl : pre.length + rest.length ≤ 500) (hc : 0 ≤ c ∧ c ≤ 4294967295) (hr : ∀ x ∈ rest, 0 ≤ x ∧ x ≤ 4294967295) :
    Ev (fun k => spec_l04Name.f k (pre ++ c :: rest) (pre.length : Int) kd) (nameRes kd (c / 16 :: (tailOf rest).map (· / 16))) := by
  have hlen : (pre ++ c :: rest).length = pre.length + rest.length + 1 := by rw [List.length_append, List.length_cons]; omega
  have e := spec_l04Name_l0 kd rest (pre ++ [c]) [c / 16] (by rw [List.length_append, List.length_singleton]; omega) (by simp) (fun x hx => by rw [List.mem_singleton] at hx; rw [hx]; exact range_16 hc) hr
  rw [List.append_assoc, List.singleton_append, List.length_append, List.length_singleton] at e
  unfold spec_l04Name.f
  rw [rd_mid rfl, tdiv_16 hc, w64 (by omega) (by omega), show ((pre.length : Int) + 1) = ((pre.length + 1 : Nat) : Int) by omega]
  exact ev_pos (by omega) (ev_pos (by omega) e)

/-! ### spec_l04Num -/
theorem spec_l04Num_eq (n : Int) (hex : Bool) (s l : Int) (hn : -2147483648 ≤ n ∧ n ≤ 2147483647) (hs : 0 ≤ s ∧ s ≤ 15) (hl : 0 ≤ l ∧ l ≤ 15) : spec_l04Num.f n hex s l = some (numCells n hex s l) := by
  unfold spec_l04Num.f numCells bitOf
  cases hex
  · simp only [Bool.false_eq_true, if_false]
    by_cases h : -67108864 ≤ n ∧ n ≤ 67108863
    · rw [if_pos h.1, if_pos h.2, if_pos h]
      congr 2; omega
    · rw [if_neg h]
      have e : (0 + l) % 4294967296 = 0 + l := by omega
      rw [e]
      by_cases h1 : n ≥ -67108864
      · rw [if_pos h1, if_neg (by omega)]
      · rw [if_neg h1]
  · simp only [if_true]
    by_cases h : -67108864 ≤ n ∧ n ≤ 67108863
    · rw [if_pos h.1, if_pos h.2, if_pos h]
      congr 2; omega
    · rw [if_neg h]
      have e : (16 + l) % 4294967296 = 16 + l := by omega
      rw [e]
      by_cases h1 : n ≥ -67108864
      · rw [if_pos h1, if_neg (by omega)]
      · rw [if_neg h1]

/-! ### spec_l04Word -/
theorem spec_l04Word_l0 (t : Int) (ht : 0 ≤ t ∧ t ≤ 15) (fs : List Int) (hf : ∀ f ∈ fs, 0 ≤ f ∧ f < 268435456) (hl : fs.length ≤ 24) (d : Nat) : ∀ i : Nat, i + d = fs.length →
    Ev (fun k => spec_l04Word.l0 k t ((word t fs).take i ++ fs.drop i) (i : Int)) (word t fs) := by
  induction d with
  | zero =>
    intro i hi
    refine Ev.step (fun k => by rw [spec_l04Word.l0]) ?_
    have hw := word_length t fs
    refine ev_neg (by rw [List.length_append, List.length_take, List.length_drop]; omega) (ev_ret ?_)
    rw [List.take_of_length_le (by omega), List.drop_of_length_le (by omega), List.append_nil]
  | succ d ih =>
    intro i hi
    have hw := word_length t fs
    have hlt : i < fs.length := by omega
    have hfi := hf fs[i] (List.getElem_mem _)
    have hti : i = ((word t fs).take i).length := by rw [List.length_take]; omega
    have hg := word_getElem t fs i hlt
    refine Ev.step (fun k => by rw [spec_l04Word.l0]) ?_
    refine ev_pos (by rw [List.length_append, List.length_take, List.length_drop]; omega) (ev_pos (by omega) (ev_some ?_))
    rw [List.drop_eq_getElem_cons hlt, rd_mid hti]
    simp only [Int.toNat_natCast]
    rw [set_mid hti, w64 (by omega) (by omega), show ((i : Int) + 1) = ((i + 1 : Nat) : Int) by omega]
    have next := ih (i + 1) (by omega)
    rw [List.take_succ_eq_append_getElem (by rw [hw]; exact hlt), hg, List.append_assoc, List.singleton_append] at next
    by_cases h0 : i = 0
    · refine ev_pos (by omega) ?_
      rw [rd_mid hti, set_mid hti]
      rw [if_pos h0] at next
      rw [show (fs[i] * 16 % 4294967296 + t) % 4294967296 = fs[i] * 16 + t by omega]
      exact next
    · refine ev_neg (by omega) ?_
      rw [if_neg h0] at next
      rw [show fs[i] * 16 % 4294967296 = fs[i] * 16 by omega]
      exact next
theorem spec_l04Word_ev (t : Int) (ht : 0 ≤ t ∧ t ≤ 15) (l : List UInt8) : Ev (fun k => spec_l04Word.f k t (toB l)) (word t (pack l)) := by
  refine ev_bind (spec_Pack_ev l) ?_
  have := spec_l04Word_l0 t ht (pack l) (fun f hf => (pack_fields f hf).2) (pack_length l) (pack l).length 0 (Nat.zero_add _)
  simpa using this

/-! ### spec_CellsOf -/
theorem spec_CellsOf_j0 (it : It) (hn : -2147483648 ≤ it.n ∧ it.n ≤ 2147483647) (b : Bool) (hb : b = true ↔ (it.n = 0 ∧ it.hex = false ∧ it.raw = 0)) : Ev (fun k => spec_CellsOf.j0 k b it.kind (toB it.name) it.n it.hex it.raw) (cellsOf it) := by
  obtain ⟨kind, name, n, hex, raw⟩ := it
  simp only at hn hb ⊢
  refine Ev.step (fun k => by rw [spec_CellsOf.j0]) ?_
  by_cases k0 : kind = 0
  · refine ev_pos k0 ?_
    have e : cellsOf ⟨kind, name, n, hex, raw⟩ = if name = [] ∧ n = 0 ∧ hex = false then [raw] else [] := by unfold cellsOf; simp only; rw [if_pos k0]
    rw [e]
    by_cases h1 : name = []
    · refine ev_pos ((toB_nil_iff name).2 h1) ?_
      by_cases h2 : n = 0
      · refine ev_pos h2 ?_
        cases hex with
        | true => exact ev_pos rfl (ev_ret (if_neg (fun h => Bool.noConfusion h.2.2)).symm)
        | false => exact ev_neg (by simp) (ev_ret (if_pos ⟨h1, h2, rfl⟩).symm)
      · exact ev_neg h2 (ev_ret (if_neg (fun h => h2 h.2.1)).symm)
    · exact ev_neg (fun h => h1 ((toB_nil_iff name).1 h)) (ev_ret (if_neg (fun h => h1 h.1)).symm)
  refine ev_neg k0 ?_
  by_cases k7 : kind = 7
  · refine ev_pos k7 ?_
    have e : cellsOf ⟨kind, name, n, hex, raw⟩ = if name = [] ∧ raw = 0 then numCells n hex 8 2 else [] := by unfold cellsOf; simp only; rw [if_neg k0, if_pos k7]
    rw [e]
    by_cases h1 : name = []
    · refine ev_pos ((toB_nil_iff name).2 h1) ?_
      by_cases h2 : raw = 0
      · exact ev_pos h2 (ev_bind (ev_eq (spec_l04Num_eq n hex 8 2 hn (by omega) (by omega))) (ev_ret (if_pos ⟨h1, h2⟩).symm))
      · exact ev_neg h2 (ev_ret (if_neg (fun h => h2 h.2)).symm)
    · exact ev_neg (fun h => h1 ((toB_nil_iff name).1 h)) (ev_ret (if_neg (fun h => h1 h.1)).symm)
  refine ev_neg k7 ?_
  by_cases k8 : kind = 8
  · refine ev_pos k8 ?_
    have e : cellsOf ⟨kind, name, n, hex, raw⟩ = if name = [] ∧ raw = 0 then numCells n hex 6 5 else [] := by unfold cellsOf; simp only; rw [if_neg k0, if_neg k7, if_pos k8]
    rw [e]
    by_cases h1 : name = []
    · refine ev_pos ((toB_nil_iff name).2 h1) ?_
      by_cases h2 : raw = 0
      · exact ev_pos h2 (ev_bind (ev_eq (spec_l04Num_eq n hex 6 5 hn (by omega) (by omega))) (ev_ret (if_pos ⟨h1, h2⟩).symm))
      · exact ev_neg h2 (ev_ret (if_neg (fun h => h2 h.2)).symm)
    · exact ev_neg (fun h => h1 ((toB_nil_iff name).1 h)) (ev_ret (if_neg (fun h => h1 h.1)).symm)
  refine ev_neg k8 ?_
  by_cases k9 : kind = 9
  · have hp := pack_length name
    have hwl := word_length 12 (pack name)
    have e : cellsOf ⟨kind, name, n, hex, raw⟩ = if hex = false ∧ raw = 0 ∧ (pack name).length = 1 then word 12 (pack name) ++ [n % 4294967296] else [] := by unfold cellsOf; simp only; rw [if_neg k0, if_neg k7, if_neg k8, if_pos k9]
    rw [e]
    refine ev_pos k9 (ev_bind (spec_l04Word_ev 12 (by omega) name) ?_)
    by_cases h1 : (pack name).length = 1
    · refine ev_pos (by omega) ?_
      cases hex with
      | true => exact ev_pos rfl (ev_ret (if_neg (fun h => Bool.noConfusion h.1)).symm)
      | false =>
        refine ev_neg (by simp) ?_
        by_cases h2 : raw = 0
        · exact ev_pos h2 (ev_pos (by omega) (ev_ret (if_pos ⟨rfl, h2, h1⟩).symm))
        · exact ev_neg h2 (ev_ret (if_neg (fun h => h2 h.2.1)).symm)
    · exact ev_neg (by omega) (ev_ret (if_neg (fun h => h1 h.2.2)).symm)
  have e : cellsOf ⟨kind, name, n, hex, raw⟩ = if 0 < tagOf kind ∧ n = 0 ∧ hex = false ∧ raw = 0 then word (tagOf kind) (pack name) else [] := by unfold cellsOf; simp only; rw [if_neg k0, if_neg k7, if_neg k8, if_neg k9]
  rw [e]
  refine ev_neg k9 (ev_bind (ev_eq (spec_l04Tag_eq kind)) ?_)
  have ht := tagOf_range kind
  by_cases hp : 0 < tagOf kind
  · refine ev_pos hp ?_
    by_cases hq : n = 0 ∧ hex = false ∧ raw = 0
    · exact ev_pos (hb.2 hq) (ev_bind (spec_l04Word_ev _ (by omega) name) (ev_ret (if_pos ⟨hp, hq⟩).symm))
    · exact ev_neg (fun h => hq (hb.1 h)) (ev_ret (if_neg (fun h => hq h.2)).symm)
  · exact ev_neg hp (ev_ret (if_neg (fun h => hp h.1)).symm)
theorem spec_CellsOf_ev (it : It) (hn : -2147483648 ≤ it.n ∧ it.n ≤ 2147483647) : Ev (fun k => spec_CellsOf.f k it.kind (toB it.name) it.n it.hex it.raw) (cellsOf it) := by
  unfold spec_CellsOf.f
  by_cases h1 : it.n = 0
  · refine ev_pos h1 ?_
    cases h2 : it.hex with
    | true =>
      refine ev_pos rfl ?_
      rw [← h2]
      exact spec_CellsOf_j0 it hn _ (by simp [h2])
    | false =>
      refine ev_neg (by simp) ?_
      rw [← h2]
      exact spec_CellsOf_j0 it hn _ (by simp [h1, h2])
  · exact ev_neg h1 (spec_CellsOf_j0 it hn _ (by simp [h1]))

/-! ### spec_l04Number -/
def numRes (c : Int) (rest : List Int) : Int × ByteArray × Int × Bool × Int × Int :=
  if c % 16 = 8 ∨ c % 16 = 6 then tup6 (parseOne c rest) else if (parseOne c rest).2 = 2 then tup6 (parseOne c rest) else (0, ⟨#[]⟩, 0, false, 0, 0)
theorem spec_l04Number_ev (pre : List Int) (c : Int) (rest : List Int) (hl : pre.length + rest.length ≤ 500) (hc : 0 ≤ c ∧ c ≤ 4294967295) (hr : ∀ x ∈ rest, 0 ≤ x ∧ x ≤ 4294967295) (ht : c % 16 = 8 ∨ c % 16 = 6 ∨ c % 16 = 2 ∨ c % 16 = 5) :
    ∃ r, Ev (fun k => spec_l04Number.f k (pre ++ c :: rest) (pre.length : Int)) r ∧ (if r.2.2.2.2.2 = 0 then (0, (⟨#[]⟩ : ByteArray), 0, false, c, 1) else r) = tup6 (parseOne c rest) := by
  have hlen : (pre ++ c :: rest).length = pre.length + rest.length + 1 := by rw [List.length_append, List.length_cons]; omega
  have hraw : (0, (⟨#[]⟩ : ByteArray), 0, false, c, 1) = tup6 (rawIt c, 1) := rfl
  have hw : wrap64 ((pre.length : Int) + 1) = ((pre.length + 1 : Nat) : Int) := by rw [w64 (by omega) (by omega)]; omega
  -- behind the kind
  have j2 : ∀ (kd s t : Int) (b : Bool), (b = true ↔ (c % 16 = 8 ∨ c % 16 = 6)) → (b = true → (c % 16 = 8 ∧ kd = 7) ∨ (c % 16 = 6 ∧ kd = 8)) → (b = false → c % 16 = t ∧ kd = (if c % 16 = 5 then 8 else 7) ∧ ∀ n h, cellsOf ⟨kd, [], n, h, 0⟩ = numCells n h s t) →
      ∃ r, Ev (fun k => spec_l04Number.j2 k (pre ++ c :: rest) (pre.length : Int) c b kd ⟨#[]⟩ 0 (hexOf c) 0) r ∧ (if r.2.2.2.2.2 = 0 then (0, (⟨#[]⟩ : ByteArray), 0, false, c, 1) else r) = tup6 (parseOne c rest) := by
    intro kd s t b hb h1 h2
    cases b with
    | true =>
      refine ⟨(kd, ⟨#[]⟩, wrap32 c / 32, hexOf c, 0, 1), Ev.step (fun k => by rw [spec_l04Number.j2]) (ev_pos rfl (ev_ret rfl)), ?_⟩
      rw [if_neg (by simp)]
      rcases h1 rfl with ⟨h, rfl⟩ | ⟨h, rfl⟩
      · rw [parse_8 h]; rfl
      · rw [parse_6 h]; rfl
    | false =>
      obtain ⟨g1, g2, g3⟩ := h2 rfl
      have h25 : c % 16 = 2 ∨ c % 16 = 5 := by
        have : ¬ (c % 16 = 8 ∨ c % 16 = 6) := fun h => by simpa using hb.2 h
        omega
      cases rest with
      | nil =>
        refine ⟨(0, ⟨#[]⟩, 0, false, 0, 0), Ev.step (fun k => by rw [spec_l04Number.j2]) (ev_neg (by simp) (ev_pos (by rw [hw]; rw [List.length_nil] at hlen; omega) (ev_ret rfl))), ?_⟩
        rw [if_pos rfl, parse_25_nil h25, hraw]
      | cons d r =>
        have hd := hr d (by simp)
        rw [List.length_cons] at hlen hl
        have hrd : rd (pre ++ c :: d :: r) ((pre.length + 1 : Nat) : Int) = d := by
          have := rd_mid (a := pre ++ [c]) (b := r) (x := d) (i := pre.length + 1) (by simp)
          rwa [List.append_assoc, List.singleton_append] at this
        rw [parse_25 h25]
        by_cases h32 : c < 32
        · have e := spec_CellsOf_ev ⟨kd, [], wrap32 d, hexOf c, 0⟩ (w32_range d)
          rw [g3] at e
          have hin : (Int.tdiv c 32) % 4294967296 = 0 := by rw [Int.tdiv_eq_ediv_of_nonneg hc.1]; omega
          by_cases hs : -67108864 ≤ wrap32 d ∧ wrap32 d ≤ 67108863
          · have el : (numCells (wrap32 d) (hexOf c) s t).length = 1 := by unfold numCells; rw [if_pos hs]; rfl
            refine ⟨(kd, ⟨#[]⟩, wrap32 d, hexOf c, 0, 0), Ev.step (fun k => by rw [spec_l04Number.j2]) ?_, ?_⟩
            · rw [hw, hrd, hin]
              refine ev_neg (by simp) (ev_neg (by omega) (ev_pos rfl (ev_pos (by omega) (ev_pos (by omega) (ev_bind e (ev_ret ?_))))))
              rw [el, show wrap64 ((wrap64 (((1 : Nat) : Int) / 2)) * 2) = 0 by unfold wrap64; omega]
            · rw [if_pos rfl, if_neg (fun g => g.2 hs), hraw]
          · have el : (numCells (wrap32 d) (hexOf c) s t).length = 2 := by unfold numCells; rw [if_neg hs]; rfl
            refine ⟨(kd, ⟨#[]⟩, wrap32 d, hexOf c, 0, 2), Ev.step (fun k => by rw [spec_l04Number.j2]) ?_, ?_⟩
            · rw [hw, hrd, hin]
              refine ev_neg (by simp) (ev_neg (by omega) (ev_pos rfl (ev_pos (by omega) (ev_pos (by omega) (ev_bind e (ev_ret ?_))))))
              rw [el, show wrap64 ((wrap64 (((2 : Nat) : Int) / 2)) * 2) = 2 by unfold wrap64; omega]
            · rw [if_neg (by simp), if_pos ⟨h32, hs⟩, g2]; rfl
        · have hin : ¬ (Int.tdiv c 32) % 4294967296 = 0 := by rw [Int.tdiv_eq_ediv_of_nonneg hc.1]; omega
          refine ⟨(0, ⟨#[]⟩, 0, false, 0, 0), Ev.step (fun k => by rw [spec_l04Number.j2]) ?_, ?_⟩
          · rw [hw]
            exact ev_neg (by simp) (ev_neg (by omega) (ev_neg hin (ev_ret rfl)))
          · rw [if_pos rfl, if_neg (fun g => h32 g.1), hraw]
  have j1 : ∀ (kd s t : Int), ((c % 16 = 8 ∧ kd = 7) ∨ (c % 16 = 6 ∧ kd = 8) ∨ (c % 16 = t ∧ (c % 16 = 2 ∨ c % 16 = 5) ∧ kd = (if c % 16 = 5 then 8 else 7) ∧ ∀ n h, cellsOf ⟨kd, [], n, h, 0⟩ = numCells n h s t)) →
      ∃ r, Ev (fun k => spec_l04Number.j1 k (pre ++ c :: rest) (pre.length : Int) c (c % 16) kd ⟨#[]⟩ 0 (hexOf c) 0) r ∧ (if r.2.2.2.2.2 = 0 then (0, (⟨#[]⟩ : ByteArray), 0, false, c, 1) else r) = tup6 (parseOne c rest) := by
    intro kd s t h
    by_cases h8 : c % 16 = 8
    · obtain ⟨r, e, p⟩ := j2 kd s t true ⟨fun _ => .inl h8, fun _ => rfl⟩ (fun _ => by
        rcases h with h | h | h
        · exact .inl h
        · omega
        · omega) (fun h => by cases h)
      exact ⟨r, Ev.step (fun k => by rw [spec_l04Number.j1]) (ev_pos h8 e), p⟩
    · have hb : ((c % 16 == 6) = true ↔ (c % 16 = 8 ∨ c % 16 = 6)) := by rw [beq_iff_eq]; omega
      obtain ⟨r, e, p⟩ := j2 kd s t (c % 16 == 6) hb (fun g => by
        have := beq_iff_eq.1 g
        rcases h with h | h | h
        · omega
        · exact .inr h
        · omega) (fun g => by
        have : ¬ c % 16 = 6 := by simpa using g
        rcases h with h | h | h
        · omega
        · omega
        · exact ⟨h.1, h.2.2.1, h.2.2.2⟩)
      exact ⟨r, Ev.step (fun k => by rw [spec_l04Number.j1]) (ev_neg h8 e), p⟩
  have fin : ∀ b : Bool, (b = true ↔ (c % 16 = 6 ∨ c % 16 = 5)) → ∃ r, Ev (fun k => spec_l04Number.j0 k (pre ++ c :: rest) (pre.length : Int) c (c % 16) b 7 ⟨#[]⟩ 0 (hexOf c) 0) r ∧ (if r.2.2.2.2.2 = 0 then (0, (⟨#[]⟩ : ByteArray), 0, false, c, 1) else r) = tup6 (parseOne c rest) := by
    intro b hb
    by_cases h : c % 16 = 6 ∨ c % 16 = 5
    · obtain ⟨r, e, p⟩ := j1 8 6 5 (by
        rcases h with h | h
        · exact .inr (.inl ⟨h, rfl⟩)
        · exact .inr (.inr ⟨h, .inr h, by rw [if_pos h], cells8⟩))
      exact ⟨r, Ev.step (fun k => by rw [spec_l04Number.j0]) (ev_pos (hb.2 h) e), p⟩
    · obtain ⟨r, e, p⟩ := j1 7 8 2 (by
        by_cases h8 : c % 16 = 8
        · exact .inl ⟨h8, rfl⟩
        · exact .inr (.inr ⟨by omega, .inl (by omega), by rw [if_neg (by omega)], cells7⟩))
      exact ⟨r, Ev.step (fun k => by rw [spec_l04Number.j0]) (ev_neg (fun g => h (hb.1 g)) e), p⟩
  unfold spec_l04Number.f
  rw [rd_mid rfl, tmod_16 hc, and_16 hc]
  by_cases h6 : c % 16 = 6
  · obtain ⟨r, e, p⟩ := fin true ⟨fun _ => .inl h6, fun _ => rfl⟩
    exact ⟨r, ev_pos (by omega) (ev_pos (by omega) (ev_pos h6 e)), p⟩
  · obtain ⟨r, e, p⟩ := fin (c % 16 == 5) (by rw [beq_iff_eq]; omega)
    exact ⟨r, ev_pos (by omega) (ev_pos (by omega) (ev_neg h6 e)), p⟩

/-! ### spec_FieldOk -/
theorem spec_FieldOk_ev (f : Int) (hf : 0 ≤ f ∧ f ≤ 4294967295) : Ev (fun k => spec_FieldOk.f k f) (fieldOk f) := by
  refine ev_bind (spec_UnpackOne_ev f hf) (ev_bind (spec_Pack_ev _) ?_)
  unfold fieldOk
  by_cases h : ((pack (unpackOne f)).length : Int) = 1
  · refine ev_pos h (ev_pos (by omega) (ev_ret ?_))
    obtain ⟨a, ha⟩ := List.length_eq_one_iff.1 (show (pack (unpackOne f)).length = 1 by omega)
    rw [ha]; simp [rd]
    rfl
  · refine ev_neg h (ev_ret ?_)
    rw [decide_eq_false]
    intro e
    rw [e] at h
    simp at h

/-! ### spec_l04Item -/
theorem spec_l04Item_ev (pre : List Int) (c : Int) (rest : List Int) (hl : pre.length + rest.length ≤ 500) (hc : 0 ≤ c ∧ c ≤ 4294967295) (hr : ∀ x ∈ rest, 0 ≤ x ∧ x ≤ 4294967295) :
    Ev (fun k => spec_l04Item.f k (pre ++ c :: rest) (pre.length : Int)) (tup6 (parseOne c rest)) := by
  have hlen : (pre ++ c :: rest).length = pre.length + rest.length + 1 := by rw [List.length_append, List.length_cons]; omega
  have hrd : rd (pre ++ c :: rest) (pre.length : Int) = c := rd_mid rfl
  have hk := kindOf_cases (c % 16)
  have hw : wrap64 ((pre.length : Int) + 1) = ((pre.length + 1 : Nat) : Int) := by rw [w64 (by omega) (by omega)]; omega
  have raw : ∀ p : It × Nat, p = (rawIt c, 1) → (0, (⟨#[]⟩ : ByteArray), 0, false, c, 1) = tup6 p := fun p h => by rw [h]; rfl
  have j1no : parseOne c rest = (rawIt c, 1) → Ev (fun k => spec_l04Item.j1 k (pre ++ c :: rest) (pre.length : Int) 0 false 0 ⟨#[]⟩ 0 false 0) (tup6 (parseOne c rest)) := by
    intro h
    refine Ev.step (fun k => by rw [spec_l04Item.j1]) ?_
    rw [hrd]
    exact ev_neg (by simp) (ev_pos rfl (ev_pos (by omega) (ev_pos (by omega) (ev_ret (raw _ h)))))
  have j0 : ∀ b : Bool, (b = true ↔ (c % 16 = 8 ∨ c % 16 = 6 ∨ c % 16 = 2 ∨ c % 16 = 5)) → kindOf (c % 16) = 0 → Ev (fun k => spec_l04Item.j0 k (pre ++ c :: rest) (pre.length : Int) 0 (c % 16) b 0 ⟨#[]⟩ 0 false 0) (tup6 (parseOne c rest)) := by
    intro b hb h0
    refine Ev.step (fun k => by rw [spec_l04Item.j0]) ?_
    rw [hrd, tdiv_16 hc, hw]
    by_cases hn : c % 16 = 8 ∨ c % 16 = 6 ∨ c % 16 = 2 ∨ c % 16 = 5
    · obtain ⟨r, e, p⟩ := spec_l04Number_ev pre c rest hl hc hr hn
      refine ev_pos (hb.2 hn) (ev_bind e (ev_ite (fun h => ev_pos (by omega) (ev_pos (by omega) (ev_ret ?_))) (fun h => ev_ret ?_)))
      · rw [if_pos h] at p; exact p
      · rw [if_neg h] at p; exact p
    · refine ev_neg (fun g => hn (hb.1 g)) (ev_ite (fun h12 => ?_) (fun h12 => ?_))
      · cases rest with
        | nil =>
          rw [List.length_nil] at hlen
          exact ev_neg (by omega) (j1no (parse_12_nil h12))
        | cons d r =>
          rw [List.length_cons] at hlen
          have hrd2 : rd (pre ++ c :: d :: r) ((pre.length + 1 : Nat) : Int) = d := by
            have := rd_mid (a := pre ++ [c]) (b := r) (x := d) (i := pre.length + 1) (by simp)
            rwa [List.append_assoc, List.singleton_append] at this
          refine ev_pos (by omega) (ev_pos (by omega) (ev_pos (by omega) (ev_bind (spec_FieldOk_ev _ (range_16 hc)) ?_)))
          by_cases hf : fieldOk (c / 16) = true
          · rw [hf]
            refine Ev.step (fun k => by rw [spec_l04Item.j1]) ?_
            rw [hrd, tdiv_16 hc, hw, hrd2]
            refine ev_pos rfl (ev_pos (by omega) (ev_pos (by omega) (ev_bind (spec_UnpackOne_ev _ (range_16 hc)) (ev_pos (by omega) (ev_pos (by omega) (ev_neg (by decide) (ev_ret ?_)))))))
            rw [parse_12 h12, if_pos hf]; rfl
          · rw [show fieldOk (c / 16) = false by simpa using hf]
            exact j1no (by rw [parse_12 h12, if_neg hf])
      · exact j1no (parse_no h0 (by omega) (by omega) (by omega) (by omega) h12)
  unfold spec_l04Item.f
  rw [hrd, tmod_16 hc]
  refine ev_pos (by omega) (ev_pos (by omega) (ev_bind (spec_l04Kind_ev _) ?_))
  by_cases h0 : kindOf (c % 16) = 0
  · rw [if_pos h0]
    refine ev_neg (by omega) ?_
    refine ev_ite (fun h => j0 true ⟨fun _ => .inl h, fun _ => rfl⟩ h0) (fun h8 => ?_)
    refine ev_ite (fun h => j0 true ⟨fun _ => .inr (.inl h), fun _ => rfl⟩ h0) (fun h6 => ?_)
    refine ev_ite (fun h => j0 true ⟨fun _ => .inr (.inr (.inl h)), fun _ => rfl⟩ h0) (fun h2 => ?_)
    exact j0 _ (by rw [beq_iff_eq]; omega) h0
  · rw [if_neg h0]
    refine ev_pos (by omega) (ev_bind (spec_l04Kind_ev _) ?_)
    rw [if_neg h0]
    refine ev_bind (spec_l04Name_ev pre c rest _ hl hc hr) ?_
    rw [parse_word2 (by omega), nameRes]
    by_cases hu : (unpack (c / 16 :: (tailOf rest).map (· / 16))).2 = true
    · rw [if_pos hu, if_pos hu]
      refine ev_neg (by simp only [List.length_cons]; omega) (ev_ret ?_)
      simp [tup6]
    · rw [if_neg hu, if_neg hu]
      exact ev_pos rfl (ev_ret (raw _ rfl))

/-! ### toS -/
def toS (it : It) : S51 := ⟨it.kind, toB it.name, it.n, it.hex, it.raw⟩
theorem toS_zero (it : It) : ((it.kind == 0 && ((toB it.name).toList == ([] : List UInt8) && (it.n == 0 && (!it.hex && (it.raw == 0))))) = true) ↔ it = rawIt 0 := by
  obtain ⟨a, b, c, d, e⟩ := it
  simp only [Bool.and_eq_true, beq_iff_eq, toB_nil_iff, Bool.not_eq_true', rawIt, It.mk.injEq]
theorem trimR_snoc (l : List It) (it : It) : trimR (l ++ [it]) = if it = rawIt 0 then trimR l else l ++ [it] := by
  unfold trimR
  rw [List.reverse_append, List.reverse_singleton, List.singleton_append, List.dropWhile_cons]
  by_cases h : it = rawIt 0
  · rw [if_pos (decide_eq_true h), if_pos h]
  · rw [if_neg (by simpa using h), if_neg h, List.reverse_cons, List.reverse_reverse]
theorem rd_last (l : List It) (it : It) : rd_T51 ((l ++ [it]).map toS) (l.length : Int) = toS it := by simp [rd_T51]

/-! ### spec_ParseCells -/
theorem spec_ParseCells_l1 (n : Nat) : ∀ l : List It, l.length = n → l.length ≤ 1000 → Ev (fun k => spec_ParseCells.l1 k (l.map toS)) ((trimR l).map toS) := by
  induction n with
  | zero =>
    intro l hn hl
    obtain rfl : l = [] := List.eq_nil_of_length_eq_zero hn
    refine Ev.step (fun k => by rw [spec_ParseCells.l1]) ?_
    exact ev_neg (by simp) (ev_ret rfl)
  | succ n ih =>
    intro l hn hl
    obtain ⟨m, it, rfl⟩ : ∃ (m : List It) (it : It), l = m ++ [it] := by
      have hne : l ≠ [] := by intro e; rw [e] at hn; simp at hn
      exact ⟨l.dropLast, l.getLast hne, (List.dropLast_concat_getLast hne).symm⟩
    rw [List.length_append, List.length_singleton] at hn hl
    have hlen : ((m ++ [it]).map toS).length = m.length + 1 := by simp
    have next := ih m (by omega) (by omega)
    have htake : ((m ++ [it]).map toS).take m.length = m.map toS := by rw [List.map_append]; exact List.take_left' (by simp)
    refine Ev.step (fun k => by rw [spec_ParseCells.l1]) ?_
    rw [hlen, w64 (by omega) (by omega), show ((m.length + 1 : Nat) : Int) - 1 = (m.length : Int) by omega, rd_last, Int.toNat_natCast, htake, trimR_snoc]
    refine ev_pos (by omega) (ev_pos (by omega) (ev_pos (by omega) (ev_ite (fun h => ev_pos (by omega) ?_) (fun h => ev_ret ?_))))
    · rw [if_pos ((toS_zero it).1 h)]
      exact next
    · rw [if_neg (fun g => h ((toS_zero it).2 g))]
theorem spec_ParseCells_l0 (n : Nat) : ∀ (pre l : List Int) (out : List It), l.length ≤ n → pre.length + l.length ≤ 100 → out.length ≤ pre.length → (∀ x ∈ l, 0 ≤ x ∧ x ≤ 4294967295) → Ev (fun k => spec_ParseCells.l0 k (pre ++ l) (out.map toS) (pre.length : Int)) ((trimR (out ++ parseF n l)).map toS) := by
  have done : ∀ (pre : List Int) (out : List It), pre.length ≤ 100 → out.length ≤ pre.length → Ev (fun k => spec_ParseCells.l0 k (pre ++ []) (out.map toS) (pre.length : Int)) ((trimR (out ++ [])).map toS) := by
    intro pre out h1 h2
    refine Ev.step (fun k => by rw [spec_ParseCells.l0]) ?_
    rw [List.append_nil, List.append_nil]
    exact ev_neg (by omega) (spec_ParseCells_l1 out.length out rfl (by omega))
  induction n with
  | zero =>
    intro pre l out hn hp ho hr
    obtain rfl : l = [] := List.eq_nil_of_length_eq_zero (by omega)
    rw [List.length_nil] at hp
    exact done pre out (by omega) ho
  | succ n ih =>
    intro pre l out hn hp ho hr
    cases l with
    | nil =>
      rw [List.length_nil] at hp
      exact done pre out (by omega) ho
    | cons c rest =>
      rw [List.length_cons] at hn hp
      have hc := hr c (by simp)
      have hrest : ∀ x ∈ rest, 0 ≤ x ∧ x ≤ 4294967295 := fun x hx => hr x (by simp [hx])
      obtain ⟨h1, h2, h3⟩ := cells_one c rest hc hrest
      have hlen : (pre ++ c :: rest).length = pre.length + rest.length + 1 := by rw [List.length_append, List.length_cons]; omega
      have htl : ((c :: rest).take (parseOne c rest).2).length = (parseOne c rest).2 := by rw [List.length_take, List.length_cons]; omega
      have next := ih (pre ++ (c :: rest).take (parseOne c rest).2) ((c :: rest).drop (parseOne c rest).2) (out ++ [(parseOne c rest).1]) (by rw [List.length_drop, List.length_cons]; omega) (by rw [List.length_append, htl, List.length_drop, List.length_cons]; omega) (by rw [List.length_append, List.length_append, htl, List.length_singleton]; omega) (drop_mem hr _)
      rw [List.append_assoc, List.take_append_drop, List.append_assoc, List.singleton_append, List.map_append, List.map_cons, List.map_nil, List.length_append, htl] at next
      refine Ev.step (fun k => by rw [spec_ParseCells.l0]) ?_
      rw [parseF]
      refine ev_pos (by omega) (ev_bind (spec_l04Item_ev pre c rest (by omega) hc hrest) (ev_pos (by rw [List.length_map]; omega) ?_))
      simp only [tup6]
      rw [w64 (by omega) (by omega), show ((pre.length : Int) + ((parseOne c rest).2 : Int)) = ((pre.length + (parseOne c rest).2 : Nat) : Int) by omega]
      exact next
theorem spec_ParseCells_ev (l : List Int) (hl : l.length ≤ 70368744177664) (hr : ∀ x ∈ l, 0 ≤ x ∧ x ≤ 4294967295) : Ev (fun k => spec_ParseCells.f k l) ((parse l).map toS) := by
  refine ev_some ?_
  unfold parse
  by_cases h : l.length > 64
  · rw [if_pos h]
    exact ev_pos (by omega) (ev_ret rfl)
  · rw [if_neg h]
    exact ev_neg (by omega) (spec_ParseCells_l0 l.length [] l [] (Nat.le_refl _) (by simp only [List.length_nil]; omega) (by simp) hr)

/-! ### spec_StoreOk -/
theorem spec_StoreOk_eq (l : List Int) : spec_StoreOk.f l = some (decide ((l.length : Int) % 64 = 0 ∧ (l.length : Int) ≤ 768)) := by
  unfold spec_StoreOk.f
  by_cases h : (l.length : Int) % 64 = 0
  · rw [if_pos h]; simp [h]
  · rw [if_neg h]; simp [h]

/-! ### spec_l05Has -/
theorem spec_l05Has_eq (l : List Int) (b : Int) (hl : l.length ≤ 1048576) : spec_l05Has.f l b = some (decide (hasBlock l b)) := by
  unfold spec_l05Has.f
  rw [spec_StoreOk_eq]
  simp only [Option.bind_some]
  rw [w64 (by omega) (by omega)]
  by_cases hh : hasBlock l b
  · rw [decide_eq_true hh]
    obtain ⟨h, h2, h3⟩ := hh
    rw [if_pos (decide_eq_true h), if_pos h2, decide_eq_true h3]
  · rw [decide_eq_false hh]
    by_cases h : (l.length : Int) % 64 = 0 ∧ (l.length : Int) ≤ 768
    · rw [if_pos (decide_eq_true h)]
      by_cases h2 : b ≥ 0
      · rw [if_pos h2, decide_eq_false (fun x => hh ⟨h, h2, x⟩)]
      · rw [if_neg h2]
    · rw [if_neg (by simpa using h)]

/-! ### spec_BlockOf -/
theorem spec_BlockOf_eq (l : List Int) (b : Int) (hl : l.length ≤ 1048576) : spec_BlockOf.f l b = some (blockOf l b) := by
  unfold spec_BlockOf.f
  rw [spec_l05Has_eq l b hl]
  simp only [Option.bind_some]
  by_cases h : hasBlock l b
  · have hc := blockAt_length h
    unfold blockOf blockAt at *
    rw [if_pos h, if_pos (decide_eq_true h)]
    obtain ⟨⟨h1, h2⟩, h3, h4⟩ := h
    rw [w64 (x := b * 64) (by omega) (by omega), w64 (x := b + 1) (by omega) (by omega), w64 (x := (b + 1) * 64) (by omega) (by omega)]
    rw [if_pos (by omega), if_pos (by omega), if_pos (by omega), if_pos (by rw [hc]; simp)]
    simp
  · unfold blockOf
    rw [if_neg h, if_neg (by simpa using h)]

/-! ### spec_ItemsOf -/
theorem spec_ItemsOf_ev (l : List Int) (b : Int) (hl : l.length ≤ 1048576) (hr : ∀ x ∈ l, 0 ≤ x ∧ x ≤ 4294967295) : Ev (fun k => spec_ItemsOf.f k l b) ((parse (blockOf l b).1).map toS, (blockOf l b).2) := by
  have hbl := blockOf_length l b
  have hbr := blockOf_range l b hr
  refine ev_bind (ev_eq (spec_BlockOf_eq l b hl)) ?_
  by_cases h : hasBlock l b
  · rw [show blockOf l b = (blockAt l b, true) from if_pos h] at hbl hbr ⊢
    exact ev_pos rfl (ev_bind (spec_ParseCells_ev _ (by omega) hbr) (ev_ret rfl))
  · rw [show blockOf l b = ([], false) from if_neg h]
    exact ev_neg (by simp) (ev_ret rfl)

/-! ### impl_nameTag -/
theorem impl_nameTag_eq (k : Int) : impl_nameTag.f k = some (tagOf k) := by
  unfold impl_nameTag.f tagOf
  repeat' split
  all_goals rfl

/-! ### impl_within -/
theorem impl_within_eq (a b c : Int) : impl_within.f a b c = some (decide (b ≤ a ∧ a ≤ c)) := by
  unfold impl_within.f
  by_cases h : b ≤ a
  · rw [if_pos h]; simp [h]
  · rw [if_neg h]; simp [h]

/-! ### strings_IndexByte -/
theorem strings_IndexByte_eq (b : UInt8) : strings_IndexByte.f lettersB (b.toNat : Int) = some (lo b) := by
  unfold strings_IndexByte.f stringslite_IndexByte.f lo
  simp

/-! ### impl_LetterOf -/
theorem impl_LetterOf_eq (b : UInt8) : impl_LetterOf.f (b.toNat : Int) = some (lo b) := by
  unfold impl_LetterOf.f
  have e : impl_letters.f = some lettersB := rfl
  rw [e]
  simp only [Option.bind_some]
  rw [strings_IndexByte_eq]
  rfl

/-! ### impl_NameOk -/
theorem impl_NameOk_l0 (s : ByteArray) (hs : s.size ≤ 1048576) (d : Nat) : ∀ i : Nat, i + d = s.size → Ev (fun k => impl_NameOk.l0 k s (s.size : Int) (i : Int)) ((s.data.toList.drop i).all (fun b => decide (1 ≤ lo b)) && decide (1 ≤ s.size ∧ s.size ≤ 24)) := by
  induction d with
  | zero =>
    intro i hi
    refine Ev.step (fun k => by rw [impl_NameOk.l0]) ?_
    refine ev_neg (by omega) (ev_bind (ev_eq (impl_within_eq _ _ _)) (ev_ret ?_))
    rw [List.drop_of_length_le (by rw [← size_eq]; omega), List.all_nil, Bool.true_and]
    rw [Bool.eq_iff_iff, decide_eq_true_eq, decide_eq_true_eq]; omega
  | succ d ih =>
    intro i hi
    have hlt : i < s.size := by omega
    refine Ev.step (fun k => by rw [impl_NameOk.l0]) ?_
    refine ev_pos (by omega) (ev_pos (by omega) (ev_pos (by omega) (ev_bind (ev_eq (by rw [bt_at hlt]; exact impl_LetterOf_eq _)) ?_)))
    rw [drop_cons hlt, List.all_cons]
    by_cases h : 1 ≤ lo s[i]
    · refine ev_neg (by omega) ?_
      rw [w64 (by omega) (by omega), show ((i : Int) + 1) = ((i + 1 : Nat) : Int) by omega, decide_eq_true h, Bool.true_and]
      exact ih (i + 1) (by omega)
    · refine ev_pos (by omega) (ev_ret ?_)
      rw [decide_eq_false h, Bool.false_and, Bool.false_and]
theorem impl_NameOk_ev (s : ByteArray) (hs : s.size ≤ 1048576) : Ev (fun k => impl_NameOk.f k s) (okName s.data.toList) := by
  refine ev_to (impl_NameOk_l0 s hs s.size 0 (by omega)) ?_
  unfold okName
  rw [← size_eq, List.drop_zero, Bool.eq_iff_iff]
  simp only [Bool.and_eq_true, decide_eq_true_eq]
  exact ⟨fun h => ⟨h.2, h.1⟩, fun h => ⟨h.2, h.1⟩⟩

/-! ### impl_WidthOf -/
theorem impl_WidthOf_eq (k : Int) : impl_WidthOf.f k = some (widthOf k) := by
  unfold impl_WidthOf.f widthOf
  simp only [impl_within_eq, Option.bind_some, decide_eq_true_eq]
  by_cases h1 : 0 ≤ k ∧ k ≤ 7
  · rw [if_pos h1, if_pos h1]
  rw [if_neg h1, if_neg h1]
  by_cases h2 : 8 ≤ k ∧ k ≤ 15
  · rw [if_pos h2, if_pos h2]
  rw [if_neg h2, if_neg h2]
  by_cases h3 : 16 ≤ k ∧ k ≤ 47
  · rw [if_pos h3, if_pos h3]
  rw [if_neg h3, if_neg h3]

/-! ### impl_BitsOf -/
theorem impl_BitsOf_eq (k : Int) : impl_BitsOf.f k = some (bitsOf k) := by
  unfold impl_BitsOf.f
  simp only [impl_WidthOf_eq, Option.bind_some]
  rcases width_cases k with ⟨e1, e2, h⟩ | ⟨e1, e2, h⟩ | ⟨e1, e2, h⟩ | ⟨e1, e2, h⟩ <;> rw [e1, e2] <;> simp
  · omega
  · omega
  · omega

/-! ### impl_PackOne -/
theorem impl_PackOne_l0 (s : ByteArray) (hs : s.size ≤ 1000000) (hb : ∀ b ∈ s.data.toList, 1 ≤ lo b) (d : Nat) : ∀ (i : Nat) (f left : Int), i + d = s.size → 0 ≤ left → left ≤ 28 → 0 ≤ f → f % 2 ^ left.toNat = 0 → f + 2 ^ left.toNat ≤ 268435456 →
    Ev (fun k => impl_PackOne.l0 k s f left (i : Int) (s.size : Int) (i : Int)) (f + (one (s.data.toList.drop i) left).1, (i : Int) + ((one (s.data.toList.drop i) left).2 : Int)) := by
  induction d with
  | zero =>
    intro i f left hi h0 h1 h2 hm h3
    have := two_pow_pos left.toNat
    refine Ev.step (fun k => by rw [impl_PackOne.l0]) ?_
    refine ev_neg (by omega) (ev_ret ?_)
    rw [List.drop_of_length_le (by rw [← size_eq]; omega), one]
    simp
  | succ d ih =>
    intro i f left hi h0 h1 h2 hm0 h3
    have hlt : i < s.size := by omega
    have hp := two_pow_pos left.toNat
    have hl1 := hb s[i] (by rw [getB hlt]; exact List.getElem_mem _)
    have hlr := lo_range s[i]
    have w := width_in (k := lo s[i]) (by omega) (by omega)
    rw [drop_cons hlt, one]
    refine Ev.step (fun k => by rw [impl_PackOne.l0]) ?_
    refine ev_pos (by omega) (ev_pos (by omega) (ev_pos (by omega) (ev_bind (ev_eq (by rw [bt_at hlt]; exact impl_LetterOf_eq _)) (ev_bind (ev_eq (impl_WidthOf_eq _)) ?_))))
    by_cases hw : widthOf (lo s[i]) > left
    · rw [if_pos hw]
      refine ev_pos hw (ev_ret ?_)
      simp
    · rw [if_neg hw]
      have e : left.toNat = (widthOf (lo s[i])).toNat + (left - widthOf (lo s[i])).toNat := by omega
      have hq := two_pow_pos (left - widthOf (lo s[i])).toNat
      have hm : (bitsOf (lo s[i]) + 1) * 2 ^ (left - widthOf (lo s[i])).toNat ≤ 2 ^ left.toNat := by
        rw [e, Int.pow_add]; exact Int.mul_le_mul_of_nonneg_right (by omega) (by omega)
      rw [Int.add_mul] at hm
      have hn := Int.mul_nonneg w.2.2.1 (show 0 ≤ (2 : Int) ^ (left - widthOf (lo s[i])).toNat by omega)
      refine ev_neg hw (ev_bind (ev_eq (impl_WidthOf_eq _)) (ev_bind (ev_eq (impl_BitsOf_eq _)) (ev_pos (by rw [w64 (by omega) (by omega)]; omega) ?_)))
      rw [w64 (x := left - widthOf (lo s[i])) (by omega) (by omega), shl_u32 w.2.2.1 (by omega) (by omega), w64 (by omega) (by omega), show ((i : Int) + 1) = ((i + 1 : Nat) : Int) by omega]
      rw [or_u32 left.toNat (by omega) hm0 (by omega) (by omega) (by omega)]
      refine ev_to (ih (i + 1) _ _ (by omega) (by omega) (by omega) (by omega) ?_ (by omega)) ?_
      · have e2 : (f + bitsOf (lo s[i]) * 2 ^ (left - widthOf (lo s[i])).toNat) = (2 : Int) ^ (left - widthOf (lo s[i])).toNat * (2 ^ (widthOf (lo s[i])).toNat * (f / 2 ^ left.toNat) + bitsOf (lo s[i])) := by
          have h4 := Int.mul_ediv_add_emod f (2 ^ left.toNat)
          rw [hm0, e, Int.pow_add] at h4
          rw [Int.mul_add, Int.mul_comm (bitsOf _), e, Int.pow_add]
          rw [← Int.mul_assoc, Int.mul_comm (2 ^ (left - widthOf (lo s[i])).toNat) (2 ^ (widthOf (lo s[i])).toNat)]
          omega
        rw [e2, Int.mul_emod_right]
      · simp only [Prod.mk.injEq]
        constructor <;> omega
theorem impl_PackOne_ev (l : List UInt8) (hl : l.length ≤ 1048576) : Ev (fun k => impl_PackOne.f k (toB l)) (if okName l = true then ((one l 28).1, ((one l 28).2 : Int)) else (0, 0)) := by
  refine ev_bind (impl_NameOk_ev (toB l) (by rw [toB_size]; omega)) ?_
  rw [toB_data]
  by_cases h : okName l = true
  · rw [if_pos h]
    obtain ⟨h1, h2, h3⟩ := (okName_iff l).1 h
    refine ev_pos h (ev_to (impl_PackOne_l0 (toB l) (by rw [toB_size]; omega) h3 l.length 0 0 28 (by rw [toB_size]; omega) (by omega) (by omega) (by omega) (by simp) (by decide)) ?_)
    rw [toB_data]; simp
  · rw [if_neg h]
    exact ev_neg h (ev_ret rfl)

/-! ### impl_Pack -/
theorem impl_Pack_l0 (n : Nat) : ∀ (l : List UInt8) (out : List Int), l.length ≤ n → n ≤ 24 → (∀ b ∈ l, 1 ≤ lo b) → out.length + l.length ≤ 1000000 → Ev (fun k => impl_Pack.l0 k (toB l) out) (out ++ packF l.length l) := by
  have stop : ∀ out : List Int, Ev (fun k => impl_Pack.l0 k (toB []) out) (out ++ packF 0 []) := by
    intro out
    refine Ev.step (fun k => by rw [impl_Pack.l0]) ?_
    refine ev_bind (impl_NameOk_ev _ (by decide)) (ev_neg (by decide) (ev_ret ?_))
    simp [packF]
  induction n with
  | zero =>
    intro l out hl hn hb ho
    have : l = [] := List.eq_nil_of_length_eq_zero (by omega)
    subst this
    exact stop out
  | succ n ih =>
    intro l out hl hn hb ho
    by_cases h : l = []
    · subst h; exact stop out
    · have h1 := one_pos h (left := 28) (by omega)
      have h2 := one_range l 28 (by omega) (by omega) hb
      have hok : okName l = true := (okName_iff l).2 ⟨List.length_pos_iff.2 h, by omega, hb⟩
      have hone := impl_PackOne_ev l (by omega)
      rw [if_pos hok] at hone
      refine Ev.step (fun k => by rw [impl_Pack.l0]) ?_
      refine ev_bind (impl_NameOk_ev _ (by rw [toB_size]; omega)) (ev_pos (by rw [toB_data]; exact hok) (ev_bind hone (ev_pos (by omega) (ev_pos (by simp only; omega) (ev_pos (by rw [toB_size]; simp only; omega) ?_)))))
      rw [packF_step h, extract_eq, toB_data, toB_size, List.take_of_length_le (by omega)]
      simp only [Int.toNat_natCast]
      refine ev_to (ih (l.drop (one l 28).2) (out ++ [(one l 28).1]) (by rw [List.length_drop]; omega) (by omega) (fun b hb' => hb b (List.mem_of_mem_drop hb')) (by simp only [List.length_append, List.length_drop, List.length_cons, List.length_nil]; omega)) ?_
      simp
theorem impl_Pack_ev (l : List UInt8) (hl : l.length ≤ 1048576) : Ev (fun k => impl_Pack.f k (toB l)) (pack l) := by
  unfold pack
  by_cases h : okName l = true
  · rw [if_pos h]
    obtain ⟨h1, h2, h3⟩ := (okName_iff l).1 h
    exact impl_Pack_l0 l.length l [] (by omega) h2 h3 (by simp; omega)
  · rw [if_neg h]
    refine Ev.step (g := fun k => impl_Pack.l0 k (toB l) []) (fun k => by rw [impl_Pack.l0]) ?_
    exact ev_bind (impl_NameOk_ev _ (by rw [toB_size]; omega)) (ev_neg (by rw [toB_data]; exact h) (ev_ret rfl))

/-! ### impl_numberCells -/
theorem impl_numberCells_eq (n : Int) (hex : Bool) (s l : Int) (hn : -2147483648 ≤ n ∧ n ≤ 2147483647) (hs : 0 ≤ s ∧ s ≤ 15) (hl : 0 ≤ l ∧ l ≤ 15) : impl_numberCells.f n hex s l = some (numCells n hex s l) := by
  unfold impl_numberCells.f numCells bitOf
  have e0 : (n % 4294967296 * 32) % 4294967296 = n % 134217728 * 32 := by omega
  have em : n % 134217728 * 32 % 2 ^ 5 = 0 := by omega
  rw [e0]
  cases hex
  · simp only [Bool.false_eq_true, if_false]
    rw [or_u32 (x := n % 134217728 * 32) (y := 0) 0 (by omega) (by simp) (by omega) (by omega) (by omega), or_u32 (x := n % 134217728 * 32 + 0) (y := s) 4 (by omega) (by omega) hs.1 (by omega) (by omega), or_u32 (x := 0) (y := l) 4 (by omega) (by omega) hl.1 (by omega) (by omega)]
    by_cases h : -67108864 ≤ n ∧ n ≤ 67108863
    · rw [if_pos h.1, if_pos h.2, if_pos h]
    · rw [if_neg h]
      by_cases h1 : n ≥ -67108864
      · rw [if_pos h1, if_neg (by omega)]
      · rw [if_neg h1]
  · simp only [if_true]
    rw [or_u32 (x := n % 134217728 * 32) (y := 16) 5 (by omega) em (by omega) (by omega) (by omega), or_u32 (x := n % 134217728 * 32 + 16) (y := s) 4 (by omega) (by omega) hs.1 (by omega) (by omega), or_u32 (x := 16) (y := l) 4 (by omega) (by omega) hl.1 (by omega) (by omega)]
    by_cases h : -67108864 ≤ n ∧ n ≤ 67108863
    · rw [if_pos h.1, if_pos h.2, if_pos h]
    · rw [if_neg h]
      by_cases h1 : n ≥ -67108864
      · rw [if_pos h1, if_neg (by omega)]
      · rw [if_neg h1]

/-! ### impl_CellsOf -/
theorem impl_CellsOf_l0 (fs : List Int) (hf : ∀ f ∈ fs, 0 ≤ f ∧ f < 268435456) (hl : fs.length ≤ 24) (d : Nat) : ∀ (i : Nat) (t : Int) (out : List Int), i + d = fs.length → 0 ≤ t ∧ t ≤ 15 → out.length ≤ i →
    Ev (fun k => impl_CellsOf.l0 k t out fs (fs.length : Int) (i : Int)) (out ++ word t (fs.drop i)) := by
  induction d with
  | zero =>
    intro i t out hi ht ho
    refine Ev.step (fun k => by rw [impl_CellsOf.l0]) ?_
    refine ev_neg (by omega) (ev_ret ?_)
    rw [List.drop_of_length_le (by omega), word, List.append_nil]
  | succ d ih =>
    intro i t out hi ht ho
    have hlt : i < fs.length := by omega
    have hfi := hf fs[i] (List.getElem_mem _)
    refine Ev.step (fun k => by rw [impl_CellsOf.l0]) ?_
    refine ev_pos (by omega) (ev_pos (by omega) (ev_pos (by omega) (ev_pos (by omega) ?_)))
    rw [rd_nat hlt, w64 (by omega) (by omega), show ((i : Int) + 1) = ((i + 1 : Nat) : Int) by omega]
    rw [show fs[i] * 16 % 4294967296 = fs[i] * 16 by omega, or_u32 4 (by omega) (by omega) ht.1 (by omega) (by omega)]
    refine ev_to (ih (i + 1) 0 _ (by omega) (by omega) (by rw [List.length_append, List.length_singleton]; omega)) ?_
    rw [word_zero, List.drop_eq_getElem_cons hlt, word, List.append_assoc]
    rfl
theorem impl_CellsOf_ev (it : It) (hn : -2147483648 ≤ it.n ∧ it.n ≤ 2147483647) (hs : it.name.length ≤ 1048576) : Ev (fun k => impl_CellsOf.f k it.kind (toB it.name) it.n it.hex it.raw) (cellsOf it) := by
  obtain ⟨kind, name, n, hex, raw⟩ := it
  simp only at hn hs ⊢
  have hp := pack_length name
  have hpf : ∀ f ∈ pack name, 0 ≤ f ∧ f < 268435456 := fun f hf => (pack_fields f hf).2
  have ht := tagOf_range kind
  have rest : ∀ b : Bool, (b = true → 0 < tagOf kind ∧ n = 0 ∧ hex = false ∧ raw = 0) → (0 < tagOf kind ∧ n = 0 ∧ hex = false ∧ raw = 0 → b = true) → Ev (fun k => impl_CellsOf.j0 k (tagOf kind) b kind (toB name) n hex raw) (cellsOf ⟨kind, name, n, hex, raw⟩) := by
    intro b hb1 hb2
    refine Ev.step (fun k => by rw [impl_CellsOf.j0]) ?_
    by_cases hb : b = true
    · obtain ⟨q1, q2⟩ := hb1 hb
      have := tagOf_pos q1
      have e : cellsOf ⟨kind, name, n, hex, raw⟩ = word (tagOf kind) (pack name) := by unfold cellsOf; simp only; rw [if_neg (by omega), if_neg (by omega), if_neg (by omega), if_neg (by omega), if_pos ⟨q1, q2⟩]
      rw [e]
      refine ev_pos hb (ev_bind (impl_Pack_ev name hs) ?_)
      have := impl_CellsOf_l0 (pack name) hpf hp (pack name).length 0 (tagOf kind) [] (Nat.zero_add _) (by omega) (Nat.le_refl _)
      simpa using this
    · refine ev_neg hb ?_
      by_cases k0 : kind = 0
      · have e : cellsOf ⟨kind, name, n, hex, raw⟩ = if name = [] ∧ n = 0 ∧ hex = false then [raw] else [] := by unfold cellsOf; simp only; rw [if_pos k0]
        rw [e]
        refine ev_neg (by simp [k0]) (ev_neg (by simp [k0]) (ev_neg (by simp [k0]) ?_))
        by_cases h : name = [] ∧ n = 0 ∧ hex = false
        · refine ev_pos ?_ (ev_ret (if_pos h).symm)
          obtain ⟨h1, h2, h3⟩ := h
          rw [(toB_nil_iff name).2 h1, h2, h3, k0]; rfl
        · refine ev_neg ?_ (ev_ret (if_neg h).symm)
          intro hc
          simp only [Bool.and_eq_true, beq_iff_eq, Bool.not_eq_true'] at hc
          exact h ⟨(toB_nil_iff name).1 hc.2.1, hc.2.2.1, hc.2.2.2⟩
      by_cases k7 : kind = 7
      · have e : cellsOf ⟨kind, name, n, hex, raw⟩ = if name = [] ∧ raw = 0 then numCells n hex 8 2 else [] := by unfold cellsOf; simp only; rw [if_neg k0, if_pos k7]
        rw [e]
        by_cases h : name = [] ∧ raw = 0
        · refine ev_pos ?_ (ev_bind (ev_eq (impl_numberCells_eq n hex 8 2 hn (by omega) (by omega))) (ev_ret (if_pos h).symm))
          rw [(toB_nil_iff name).2 h.1, h.2, k7]; rfl
        · refine ev_neg ?_ (ev_neg (by simp [k7]) (ev_neg (by simp [k7]) (ev_neg (by simp [k7]) (ev_ret (if_neg h).symm))))
          intro hc
          simp only [Bool.and_eq_true, beq_iff_eq] at hc
          exact h ⟨(toB_nil_iff name).1 hc.2.1, hc.2.2⟩
      refine ev_neg (by simp [k7]) ?_
      by_cases k8 : kind = 8
      · have e : cellsOf ⟨kind, name, n, hex, raw⟩ = if name = [] ∧ raw = 0 then numCells n hex 6 5 else [] := by unfold cellsOf; simp only; rw [if_neg k0, if_neg k7, if_pos k8]
        rw [e]
        by_cases h : name = [] ∧ raw = 0
        · refine ev_pos ?_ (ev_bind (ev_eq (impl_numberCells_eq n hex 6 5 hn (by omega) (by omega))) (ev_ret (if_pos h).symm))
          rw [(toB_nil_iff name).2 h.1, h.2, k8]; rfl
        · refine ev_neg ?_ (ev_neg (by simp [k8]) (ev_neg (by simp [k8]) (ev_ret (if_neg h).symm)))
          intro hc
          simp only [Bool.and_eq_true, beq_iff_eq] at hc
          exact h ⟨(toB_nil_iff name).1 hc.2.1, hc.2.2⟩
      refine ev_neg (by simp [k8]) ?_
      by_cases k9 : kind = 9
      · have e : cellsOf ⟨kind, name, n, hex, raw⟩ = if hex = false ∧ raw = 0 ∧ (pack name).length = 1 then word 12 (pack name) ++ [n % 4294967296] else [] := by unfold cellsOf; simp only; rw [if_neg k0, if_neg k7, if_neg k8, if_pos k9]
        rw [e]
        by_cases h : hex = false ∧ raw = 0
        · refine ev_pos (by rw [h.1, h.2, k9]; rfl) (ev_bind (impl_Pack_ev name hs) ?_)
          by_cases h1 : (pack name).length = 1
          · obtain ⟨f, hf⟩ := List.length_eq_one_iff.1 h1
            have hff := hpf f (by rw [hf]; simp)
            refine ev_pos (by omega) (ev_pos (by omega) (ev_ret ?_))
            rw [if_pos ⟨h.1, h.2, h1⟩, hf]
            simp only [rd, Int.toNat_zero, List.getD_cons_zero, word, List.map_nil, List.singleton_append]
            rw [show f * 16 % 4294967296 = f * 16 by omega, or_u32 4 (by omega) (by omega) (by omega) (by omega) (by omega)]
          · exact ev_neg (by omega) (ev_ret (if_neg (fun h => h1 h.2.2)).symm)
        · refine ev_neg ?_ (ev_neg (by simp [k9]) (ev_ret (if_neg (fun hc => h ⟨hc.1, hc.2.1⟩)).symm))
          intro hc
          simp only [Bool.and_eq_true, beq_iff_eq, Bool.not_eq_true'] at hc
          exact h hc.2
      have e : cellsOf ⟨kind, name, n, hex, raw⟩ = [] := by unfold cellsOf; simp only; rw [if_neg k0, if_neg k7, if_neg k8, if_neg k9, if_neg (fun h => hb (hb2 h))]
      rw [e]
      exact ev_neg (by simp [k9]) (ev_neg (by simp [k0]) (ev_ret rfl))
  unfold impl_CellsOf.f
  refine ev_bind (ev_eq (impl_nameTag_eq kind)) ?_
  by_cases hp0 : tagOf kind > 0
  · refine ev_pos hp0 (rest _ ?_ ?_)
    · intro h
      simp only [Bool.and_eq_true, beq_iff_eq, Bool.not_eq_true'] at h
      exact ⟨hp0, h⟩
    · intro h
      simp [h.2.1, h.2.2.1, h.2.2.2]
  · exact ev_neg hp0 (rest false (by simp) (fun h => absurd h.1 hp0))

/-! ### slices_Equal_uint32_uint32 -/
theorem slices_Equal_u32_l0 (a b : List Int) (hl : a.length ≤ 70368744177664) (he : a.length = b.length) (d : Nat) : ∀ (i : Nat), i + d = a.length → Ev (fun k => slices_Equal_uint32_uint32.l0 k a b (a.length : Int) (i : Int)) (decide (a.drop i = b.drop i)) := by
  induction d with
  | zero =>
    intro i hi
    refine Ev.step (fun k => by rw [slices_Equal_uint32_uint32.l0]) ?_
    refine ev_neg (by omega) (ev_ret ?_)
    rw [List.drop_of_length_le (by omega), List.drop_of_length_le (by omega)]; simp
  | succ d ih =>
    intro i hi
    refine Ev.step (fun k => by rw [slices_Equal_uint32_uint32.l0]) ?_
    refine ev_pos (by omega) (ev_pos (by omega) (ev_pos (by omega) (ev_pos (by omega) ?_)))
    rw [rd_nat (by omega), rd_nat (by omega), List.drop_eq_getElem_cons (by omega : i < a.length), List.drop_eq_getElem_cons (by omega : i < b.length)]
    by_cases h : a[i] = b[i]
    · refine ev_pos h ?_
      rw [w64 (by omega) (by omega), show ((i : Int) + 1) = ((i + 1 : Nat) : Int) by omega]
      exact ev_to (ih (i + 1) (by omega)) (dec_cons h)
    · exact ev_neg h (ev_ret (dec_cons_ne h))
theorem slices_Equal_u32_ev (a b : List Int) (hl : a.length ≤ 70368744177664) : Ev (fun k => slices_Equal_uint32_uint32.f k a b) (decide (a = b)) := by
  by_cases h : a.length = b.length
  · exact ev_pos (by omega) (ev_to (slices_Equal_u32_l0 a b hl h a.length 0 (by omega)) (by simp))
  · refine ev_neg (by omega) (ev_ret ?_)
    rw [decide_eq_false]
    intro e
    exact h (by rw [e])

/-! ### impl_Decode -/
theorem impl_Decode_l0 (x n : Int) (hx : 0 ≤ x ∧ x ≤ 4294967295) (hn : 1 ≤ n ∧ n ≤ 32) (d : Nat) (hd : d ≤ 48) : Ev (fun k => impl_Decode.l0 k x n (48 - (d : Int))) (decFrom x n d) := by
  induction d with
  | zero =>
    refine Ev.step (fun k => by rw [impl_Decode.l0]) ?_
    refine ev_neg (by omega) (ev_ret ?_)
    rfl
  | succ d ih =>
    refine Ev.step (fun k => by rw [impl_Decode.l0]) ?_
    refine ev_pos (by omega) (ev_bind (ev_eq (impl_WidthOf_eq _)) ?_)
    have e : (48 : Int) - ((d + 1 : Nat) : Int) = 47 - d := by omega
    have hw := width_in (k := 47 - (d : Int)) (by omega) (by omega)
    rw [e, decFrom, w64 (x := 47 - (d : Int) + 1) (by omega) (by omega), show ((47 : Int) - d + 1) = 48 - d by omega]
    by_cases h : widthOf (47 - d) ≤ n
    · refine ev_pos h (ev_pos (by rw [w64 (by omega) (by omega)]; omega) (ev_pos (by omega) (ev_bind (ev_eq (impl_BitsOf_eq _)) ?_)))
      rw [impl_head x n (widthOf (47 - d)) hx hn (by omega) h]
      have hh : hit x n (47 - d) ↔ x / 2 ^ (n - widthOf (47 - d)).toNat % 2 ^ (widthOf (47 - d)).toNat = bitsOf (47 - d) := ⟨fun k => k.2, fun k => ⟨h, k⟩⟩
      by_cases h' : hit x n (47 - d)
      · rw [if_pos h']; exact ev_pos (hh.1 h') (ev_ret rfl)
      · rw [if_neg h']; exact ev_neg (fun k => h' (hh.2 k)) (ih (by omega))
    · rw [if_neg (fun k => h k.1)]
      exact ev_neg h (ih (by omega))
theorem impl_Decode_ev (x n : Int) (hx : 0 ≤ x ∧ x ≤ 4294967295) : Ev (fun k => impl_Decode.f k x n) (dcode x n) := by
  refine ev_bind (ev_eq (impl_within_eq _ _ _)) ?_
  unfold dcode
  by_cases h : 1 ≤ n ∧ n ≤ 32
  · rw [if_pos h]; exact ev_pos (decide_eq_true h) (impl_Decode_l0 x n hx h 48 (by omega))
  · rw [if_neg h]; exact ev_neg (by simp only [decide_eq_true_eq]; exact h) (ev_ret rfl)

/-! ### impl_LetterAt -/
theorem impl_LetterAt_eq (k : Int) : impl_LetterAt.f k = some (if 0 ≤ k ∧ k ≤ 47 then bt lettersB k else 0) := by
  unfold impl_LetterAt.f impl_letters.f
  simp only [impl_within_eq, Option.bind_some, decide_eq_true_eq]
  by_cases h : 0 ≤ k ∧ k ≤ 47
  · rw [if_pos h, if_pos h, if_pos h.1, if_pos (by show k < 48; omega)]; rfl
  · rw [if_neg h, if_neg h]

/-! ### impl_UnpackOne -/
theorem impl_UnpackOne_l0 (f : Int) (hf : 0 ≤ f ∧ f < 268435456) (d : Nat) : ∀ (acc : List UInt8) (left : Int), 0 ≤ left → left ≤ 28 → left ≤ 4 * d → acc.length + d ≤ 8 →
    Ev (fun k => impl_UnpackOne.l0 k f (acc.map (fun b => (b.toNat : Int))) left) (toB (acc ++ upk f d left)) := by
  have stop : ∀ (acc : List UInt8) (left : Int), 0 ≤ left → left ≤ 28 → f % 2 ^ left.toNat = 0 → Ev (fun k => impl_UnpackOne.l0 k f (acc.map (fun b => (b.toNat : Int))) left) (toB acc) := by
    intro acc left h0 h1 hz
    refine Ev.step (fun k => by rw [impl_UnpackOne.l0]) ?_
    refine ev_pos h0 (ev_pos ?_ (ev_ret (strOf_map acc)))
    have := two_pow_le (a := left.toNat) (b := 28) (by omega)
    have := two_pow_pos left.toNat
    rw [shl1_u32 (by omega) (by omega), show ((2 : Int) ^ left.toNat - 1) % 4294967296 = 2 ^ left.toNat - 1 by omega, and_u32 (by omega) (by omega)]
    exact hz
  induction d with
  | zero =>
    intro acc left h0 h1 h2 h3
    have : left = 0 := by omega
    subst this
    rw [upk, List.append_nil]
    exact stop acc 0 (by omega) (by omega) (by simp)
  | succ d ih =>
    intro acc left h0 h1 h2 h3
    rw [upk]
    by_cases hm : f % 2 ^ left.toNat = 0
    · rw [if_pos hm, List.append_nil]
      exact stop acc left h0 h1 hm
    · rw [if_neg hm]
      refine Ev.step (fun k => by rw [impl_UnpackOne.l0]) ?_
      have := two_pow_le (a := left.toNat) (b := 28) (by omega)
      have := two_pow_pos left.toNat
      refine ev_pos h0 (ev_neg ?_ ?_)
      · rw [shl1_u32 (by omega) (by omega), show ((2 : Int) ^ left.toNat - 1) % 4294967296 = 2 ^ left.toNat - 1 by omega, and_u32 (by omega) (by omega)]
        exact hm
      refine ev_bind (impl_Decode_ev f left (by omega)) ?_
      have hd := dcode_range f left
      by_cases hk : (dcode f left).1 < 1
      · rw [if_pos hk]
        refine ev_pos hk (ev_ret ?_)
        rw [strOf_map]; simp
      · rw [if_neg hk]
        refine ev_neg hk (ev_bind (ev_eq (impl_LetterAt_eq _)) (ev_pos (by simp; omega) ?_))
        rw [if_pos (by omega), bt_letter (by omega) (by omega), w64 (by omega) (by omega), map_snoc]
        refine ev_to (ih (acc ++ [letter (dcode f left).1]) _ (by omega) (by omega) (by omega) (by simp; omega)) ?_
        simp
theorem impl_UnpackOne_ev (f : Int) (hf : 0 ≤ f ∧ f ≤ 4294967295) : Ev (fun k => impl_UnpackOne.f k f) (toB (unpackOne f)) := by
  unfold unpackOne
  by_cases h : f ≥ 268435456
  · rw [if_pos h]; exact ev_pos h (ev_ret rfl)
  · rw [if_neg h]
    refine ev_neg h ?_
    exact ev_to (impl_UnpackOne_l0 f (by omega) 8 [] 28 (by omega) (by omega) (by omega) (by simp)) (by simp)

/-! ### impl_Unpack -/
theorem impl_Unpack_l0 (list : List Int) (hl : list.length ≤ 24) (hr : ∀ x ∈ list, 0 ≤ x ∧ x ≤ 4294967295) (d : Nat) : ∀ (i : Nat) (acc : List UInt8), i + d = list.length → acc.length ≤ 8 * i →
    Ev (fun k => impl_Unpack.l0 k list (toB acc) list (list.length : Int) (i : Int)) (if okName (acc ++ unpackAll (list.drop i)) = true ∧ pack (acc ++ unpackAll (list.drop i)) = list then (toB (acc ++ unpackAll (list.drop i)), true) else (toB [], false)) := by
  induction d with
  | zero =>
    intro i acc hi ha
    rw [List.drop_of_length_le (by omega)]
    refine Ev.step (fun k => by rw [impl_Unpack.l0]) ?_
    refine ev_neg (by omega) (ev_bind (impl_NameOk_ev _ (by rw [toB_size]; omega)) ?_)
    rw [toB_data, show acc ++ unpackAll [] = acc by simp [unpackAll]]
    by_cases h : okName acc = true
    · refine ev_pos h (ev_bind (impl_Pack_ev acc (by omega)) (ev_bind (slices_Equal_u32_ev _ _ ?_) ?_))
      · have := pack_length acc; omega
      · by_cases h2 : pack acc = list
        · refine ev_pos (by simpa using h2) ?_
          rw [if_pos ⟨h, h2⟩]
          exact ev_ret rfl
        · refine ev_neg (by simpa using h2) ?_
          rw [if_neg (fun x => h2 x.2)]
          exact ev_ret rfl
    · refine ev_neg h ?_
      rw [if_neg (fun x => h x.1)]
      exact ev_ret rfl
  | succ d ih =>
    intro i acc hi ha
    have hm := hr list[i] (List.getElem_mem _)
    have hu := unpackOne_length list[i]
    refine Ev.step (fun k => by rw [impl_Unpack.l0]) ?_
    refine ev_pos (by omega) (ev_pos (by omega) (ev_pos (by omega) (ev_bind (by rw [rd_nat (by omega)]; exact impl_UnpackOne_ev _ hm) (ev_pos (by rw [toB_size, toB_size]; omega) ?_))))
    rw [w64 (by omega) (by omega), show ((i : Int) + 1) = ((i + 1 : Nat) : Int) by omega, toB_append]
    refine ev_to (ih (i + 1) _ (by omega) (by rw [List.length_append]; omega)) ?_
    rw [List.drop_eq_getElem_cons (by omega : i < list.length)]
    simp only [unpackAll, List.flatMap_cons, List.append_assoc]
theorem impl_Unpack_ev (list : List Int) (hr : ∀ x ∈ list, 0 ≤ x ∧ x ≤ 4294967295) : Ev (fun k => impl_Unpack.f k list) (toB (unpack list).1, (unpack list).2) := by
  unfold unpack
  by_cases h : list.length > 24
  · rw [if_pos h]; exact ev_pos (by omega) (ev_ret rfl)
  · rw [if_neg h]
    refine ev_neg (by omega) (ev_to (impl_Unpack_l0 list (by omega) hr list.length 0 [] (by omega) (by simp)) ?_)
    simp only [List.drop_zero, List.nil_append]
    split <;> rfl

/-! ### impl_nameKind -/
theorem impl_nameKind_l0 (t : Int) (d : Nat) : ∀ i : Nat, i + d = 7 → 1 ≤ i → (∀ j : Nat, 1 ≤ j → j < i → tagOf (j : Int) ≠ t) → Ev (fun k => impl_nameKind.l0 k t (i : Int)) (kindOf t) := by
  induction d with
  | zero =>
    intro i hi h1 hj
    refine Ev.step (fun k => by rw [impl_nameKind.l0]) ?_
    refine ev_neg (by omega) (ev_ret ?_)
    exact (kindOf_none (fun j a b => hj j a (by omega))).symm
  | succ d ih =>
    intro i hi h1 hj
    refine Ev.step (fun k => by rw [impl_nameKind.l0]) ?_
    refine ev_pos (by omega) (ev_bind (ev_eq (impl_nameTag_eq _)) (ev_ite (fun h => ev_ret ?_) (fun h => ?_)))
    · rw [← h, kindOf_tagOf i h1 (by omega)]
    · rw [w64 (by omega) (by omega), show ((i : Int) + 1) = ((i + 1 : Nat) : Int) by omega]
      refine ih (i + 1) (by omega) (by omega) (fun j a b => ?_)
      by_cases e : j = i
      · rw [e]; exact h
      · exact hj j a (by omega)
theorem impl_nameKind_ev (t : Int) : Ev (fun k => impl_nameKind.f k t) (kindOf t) := impl_nameKind_l0 t 6 1 (by omega) (by omega) (fun j a b => by omega)

/-! ### impl_FieldOk -/
theorem impl_FieldOk_ev (f : Int) (hf : 0 ≤ f ∧ f ≤ 4294967295) : Ev (fun k => impl_FieldOk.f k f) (fieldOk f) := by
  have hu := unpackOne_length f
  have hp := pack_length (unpackOne f)
  exact ev_bind (impl_UnpackOne_ev f hf) (ev_bind (impl_Pack_ev _ (by omega)) (ev_bind (slices_Equal_u32_ev _ _ (by omega)) (ev_ret rfl)))

/-! ### impl_parseOne -/
theorem impl_parseOne_j2 (t c : Int) (F : List Int) (hF : ∀ x ∈ F, 0 ≤ x ∧ x ≤ 4294967295) : Ev (fun k => impl_parseOne.j2 k t F 0 ⟨#[]⟩ 0 false c) (tup (wordIt t c F)) := by
  unfold wordIt
  refine Ev.step (fun k => by rw [impl_parseOne.j2]) ?_
  refine ev_bind (impl_Unpack_ev F hF) (ev_ite (fun h => ?_) (fun h => ?_))
  · rw [if_pos h]
    exact ev_bind (impl_nameKind_ev t) (ev_ret rfl)
  · rw [if_neg h]
    exact ev_ret rfl
theorem impl_parseOne_l0 (t c : Int) (suf : List Int) : ∀ pre acc : List Int, pre.length + suf.length ≤ 1000 → acc.length ≤ pre.length + 1 → (∀ x ∈ acc, 0 ≤ x ∧ x ≤ 4294967295) → (∀ x ∈ suf, 0 ≤ x ∧ x ≤ 4294967295) →
    Ev (fun k => impl_parseOne.l0 k t acc (pre ++ suf) ((pre ++ suf).length : Int) (pre.length : Int) 0 ⟨#[]⟩ 0 false c) (tup (wordIt t c (acc ++ (tailOf suf).map (· / 16)))) := by
  induction suf with
  | nil =>
    intro pre acc hl ha hr hs
    refine Ev.step (fun k => by rw [impl_parseOne.l0]) ?_
    rw [tail_nil, List.map_nil, List.append_nil, List.append_nil]
    exact ev_neg (by omega) (impl_parseOne_j2 t c acc hr)
  | cons d suf ih =>
    intro pre acc hl ha hr hs
    have hd := hs d (by simp)
    have hlen : (pre ++ d :: suf).length = pre.length + suf.length + 1 := by rw [List.length_append, List.length_cons]; omega
    rw [List.length_cons] at hl
    refine Ev.step (fun k => by rw [impl_parseOne.l0]) ?_
    rw [rd_mid rfl, and_15 hd]
    refine ev_pos (by omega) (ev_pos (by omega) (ev_pos (by omega) (ev_ite (fun h0 => ?_) (fun h0 => ev_ite (fun h16 => ev_pos (by omega) ?_) (fun h16 => ?_)))))
    · rw [tail_no (by omega), List.map_nil, List.append_nil]
      exact impl_parseOne_j2 t c acc hr
    · have e := ih (pre ++ [d]) (acc ++ [d / 16]) (by rw [List.length_append, List.length_singleton]; omega) (by rw [List.length_append, List.length_append, List.length_singleton, List.length_singleton]; omega) (fun x hx => by
        rcases List.mem_append.1 hx with hx | hx
        · exact hr x hx
        · rw [List.mem_singleton] at hx; rw [hx]; exact range_16 hd) (fun x hx => hs x (by simp [hx]))
      rw [List.append_assoc, List.singleton_append, List.append_assoc, List.singleton_append, show (pre ++ [d]).length = pre.length + 1 by simp] at e
      rw [tail_yes h16 h0, List.map_cons, w64 (by omega) (by omega), show ((pre.length : Int) + 1) = ((pre.length + 1 : Nat) : Int) by omega]
      exact e
    · rw [tail_no (by omega), List.map_nil, List.append_nil]
      exact impl_parseOne_j2 t c acc hr
theorem impl_parseOne_j4 (kd : Int) (s t : Int) (c d : Int) (r : List Int) (hc : 0 ≤ c ∧ c ≤ 4294967295) (hd : 0 ≤ d ∧ d ≤ 4294967295) (ht : c % 16 = t) (hcells : ∀ n h, cellsOf ⟨kd, [], n, h, 0⟩ = numCells n h s t) :
    Ev (fun k => impl_parseOne.j4 k (c :: d :: r) 0 ⟨#[]⟩ 0 false c kd ⟨#[]⟩ (wrap32 d) (hexOf c) 0) (tup (if c < 32 ∧ ¬ (-67108864 ≤ wrap32 d ∧ wrap32 d ≤ 67108863) then ⟨kd, [], wrap32 d, hexOf c, 0⟩ else rawIt c)) := by
  have e := impl_CellsOf_ev ⟨kd, [], wrap32 d, hexOf c, 0⟩ (w32_range d) (by simp)
  rw [hcells] at e
  refine Ev.step (fun k => by rw [impl_parseOne.j4]) ?_
  refine ev_bind e (ev_pos (by simp only [List.length_cons]; omega) (ev_bind (slices_Equal_u32_ev _ _ (by unfold numCells; split <;> simp)) ?_))
  have e2 : (c :: d :: r).take 2 = [c, d] := rfl
  rw [e2]
  by_cases h : c < 32 ∧ ¬ (-67108864 ≤ wrap32 d ∧ wrap32 d ≤ 67108863)
  · rw [if_pos h]
    exact ev_pos (decide_eq_true (long_cells hc hd s t ht h)) (ev_ret rfl)
  · rw [if_neg h]
    exact ev_neg (by simpa using long_cells_not s t ht h) (ev_ret rfl)
theorem impl_parseOne_j3 (c : Int) (rest : List Int) (b : Bool) (hc : 0 ≤ c ∧ c ≤ 4294967295) (hr : ∀ x ∈ rest, 0 ≤ x ∧ x ≤ 4294967295) (hl : rest.length ≤ 100) (hb : b = true ↔ (c % 16 = 2 ∨ c % 16 = 5)) (hk : kindOf (c % 16) = 0) (h8 : c % 16 ≠ 8) (h6 : c % 16 ≠ 6) :
    Ev (fun k => impl_parseOne.j3 k (c :: rest) c (c % 16) (c % 16) b 0 ⟨#[]⟩ 0 false c) (tup (parseOne c rest).1) := by
  refine Ev.step (fun k => by rw [impl_parseOne.j3]) ?_
  rw [and_16 hc]
  by_cases h25 : c % 16 = 2 ∨ c % 16 = 5
  · refine ev_pos (hb.2 h25) ?_
    cases rest with
    | nil =>
      rw [parse_25_nil h25]
      exact ev_pos (by simp) (ev_ret rfl)
    | cons d r =>
      have hd := hr d (by simp)
      have e1 : rd (c :: d :: r) 1 = d := rfl
      rw [e1]
      refine ev_neg (by simp only [List.length_cons]; omega) (ev_pos (by simp only [List.length_cons]; omega) (ev_ite (fun h5 => ?_) (fun h5 => ?_)))
      · have e := impl_parseOne_j4 8 6 5 c d r hc hd h5 cells8
        rw [parse_25 h25, if_pos h5]
        refine ev_to e ?_
        split <;> rfl
      · have e := impl_parseOne_j4 7 8 2 c d r hc hd (by omega) cells7
        rw [parse_25 h25, if_neg h5]
        refine ev_to e ?_
        split <;> rfl
  · refine ev_neg (fun h => h25 (hb.1 h)) ?_
    refine ev_ite (fun h12 => ?_) (fun h12 => ?_)
    · cases rest with
      | nil =>
        rw [parse_12_nil h12]
        exact ev_neg (by simp) (ev_ret rfl)
      | cons d r =>
        have e1 : rd (c :: d :: r) 1 = d := rfl
        rw [e1, parse_12 h12]
        refine ev_pos (by simp only [List.length_cons]; omega) (ev_bind (impl_FieldOk_ev _ (range_16 hc)) (ev_ite (fun hf => ?_) (fun hf => ?_)))
        · rw [if_pos hf]
          exact ev_bind (impl_UnpackOne_ev _ (range_16 hc)) (ev_pos (by simp only [List.length_cons]; omega) (ev_ret rfl))
        · rw [if_neg hf]
          exact ev_ret rfl
    · rw [parse_no hk h8 h6 (by omega) (by omega) h12]
      exact ev_ret rfl
theorem impl_parseOne_j0 (c : Int) (rest : List Int) (b : Bool) (hc : 0 ≤ c ∧ c ≤ 4294967295) (hr : ∀ x ∈ rest, 0 ≤ x ∧ x ≤ 4294967295) (hl : rest.length ≤ 100) (hb : b = true ↔ 0 < kindOf (c % 16)) :
    Ev (fun k => impl_parseOne.j0 k (c :: rest) c (c % 16) (c % 16) b 0 ⟨#[]⟩ 0 false c) (tup (parseOne c rest).1) := by
  refine Ev.step (fun k => by rw [impl_parseOne.j0]) ?_
  have hk := kindOf_cases (c % 16)
  by_cases h : 0 < kindOf (c % 16)
  · refine ev_pos (hb.2 h) (ev_pos (by simp only [List.length_cons]; omega) (ev_some ?_))
    rw [parseOne_word h]
    have e := impl_parseOne_l0 (c % 16) c rest [] [c / 16] (by simp only [List.length_nil]; omega) (by simp) (fun x hx => by rw [List.mem_singleton] at hx; rw [hx]; exact range_16 hc) hr
    exact e
  · refine ev_neg (fun g => h (hb.1 g)) ?_
    rw [and_16 hc]
    refine ev_ite (fun h8 => ?_) (fun h8 => ev_ite (fun h6 => ?_) (fun h6 => ev_ite (fun h2 => ?_) (fun h2 => ?_)))
    · rw [parse_8 h8]; exact ev_ret rfl
    · rw [parse_6 h6]; exact ev_ret rfl
    · exact impl_parseOne_j3 c rest _ hc hr hl (by simp [h2]) (by omega) h8 h6
    · exact impl_parseOne_j3 c rest _ hc hr hl (by rw [beq_iff_eq]; omega) (by omega) h8 h6
theorem impl_parseOne_ev (c : Int) (rest : List Int) (hc : 0 ≤ c ∧ c ≤ 4294967295) (hr : ∀ x ∈ rest, 0 ≤ x ∧ x ≤ 4294967295) (hl : rest.length ≤ 100) : Ev (fun k => impl_parseOne.f k (c :: rest)) (tup (parseOne c rest).1) := by
  have e0 : rd (c :: rest) 0 = c := rfl
  have hk := kindOf_cases (c % 16)
  have key := fun b hb => impl_parseOne_j0 c rest b hc hr hl hb
  have hbb : ∀ v : Int, (v = 1 ∨ v = 3 ∨ v = 4 ∨ v = 9 ∨ v = 10 ∨ v = 11) → (c % 16 = v ∨ (c % 16 ≠ 1 ∧ c % 16 ≠ 3 ∧ c % 16 ≠ 4 ∧ c % 16 ≠ 9 ∧ c % 16 ≠ 10 ∧ v = 11)) → ((c % 16 == v) = true ↔ 0 < kindOf (c % 16)) := by
    intro v hv h
    rw [beq_iff_eq]
    omega
  unfold impl_parseOne.f
  rw [e0, and_15 hc]
  refine ev_pos (by simp only [List.length_cons]; omega) ?_
  refine ev_ite (fun h => key _ (hbb _ (by omega) (.inl h))) (fun h1 => ?_)
  refine ev_ite (fun h => key _ (hbb _ (by omega) (.inl h))) (fun h3 => ?_)
  refine ev_ite (fun h => key _ (hbb _ (by omega) (.inl h))) (fun h4 => ?_)
  refine ev_ite (fun h => key _ (hbb _ (by omega) (.inl h))) (fun h9 => ?_)
  refine ev_ite (fun h => key _ (hbb _ (by omega) (.inl h))) (fun h10 => ?_)
  exact key _ (hbb _ (by omega) (.inr ⟨h1, h3, h4, h9, h10, rfl⟩))

/-! ### impl_ParseCells -/
theorem impl_ParseCells_l1 (n : Nat) : ∀ l : List It, l.length = n → l.length ≤ 1000 → Ev (fun k => impl_ParseCells.l1 k (l.map toS) (wrap64 (((l.map toS).length : Int) - 1))) ((trimR l).map toS) := by
  induction n with
  | zero =>
    intro l hn hl
    obtain rfl : l = [] := List.eq_nil_of_length_eq_zero hn
    refine Ev.step (fun k => by rw [impl_ParseCells.l1]) ?_
    exact ev_neg (by rw [List.map_nil, List.length_nil, w64 (by omega) (by omega)]; omega) (ev_ret rfl)
  | succ n ih =>
    intro l hn hl
    obtain ⟨m, it, rfl⟩ : ∃ (m : List It) (it : It), l = m ++ [it] := by
      have hne : l ≠ [] := by intro e; rw [e] at hn; simp at hn
      exact ⟨l.dropLast, l.getLast hne, (List.dropLast_concat_getLast hne).symm⟩
    rw [List.length_append, List.length_singleton] at hn hl
    have hlen : ((m ++ [it]).map toS).length = m.length + 1 := by simp
    have next := ih m (by omega) (by omega)
    rw [List.length_map] at next
    have htake : ((m ++ [it]).map toS).take m.length = m.map toS := by rw [List.map_append]; exact List.take_left' (by simp)
    rw [hlen, w64 (by omega) (by omega), show ((m.length + 1 : Nat) : Int) - 1 = (m.length : Int) by omega]
    refine Ev.step (fun k => by rw [impl_ParseCells.l1]) ?_
    rw [rd_last, hlen, Int.toNat_natCast, htake, trimR_snoc]
    refine ev_pos (by omega) (ev_pos (by omega) (ev_pos (by omega) (ev_ite (fun h => ev_pos (by omega) ?_) (fun h => ev_ret ?_))))
    · rw [if_pos ((toS_zero it).1 h)]
      exact next
    · rw [if_neg (fun g => h ((toS_zero it).2 g))]
theorem impl_ParseCells_l0 (n : Nat) : ∀ (l : List Int) (out : List It), l.length ≤ n → l.length + out.length ≤ 100 → (∀ x ∈ l, 0 ≤ x ∧ x ≤ 4294967295) → Ev (fun k => impl_ParseCells.l0 k l (out.map toS)) ((trimR (out ++ parseF n l)).map toS) := by
  induction n with
  | zero =>
    intro l out hn ho hr
    obtain rfl : l = [] := List.eq_nil_of_length_eq_zero (by omega)
    refine Ev.step (fun k => by rw [impl_ParseCells.l0]) ?_
    rw [parseF, List.append_nil]
    rw [List.length_nil] at ho
    exact ev_neg (by simp) (impl_ParseCells_l1 out.length out rfl (by omega))
  | succ n ih =>
    intro l out hn ho hr
    cases l with
    | nil =>
      refine Ev.step (fun k => by rw [impl_ParseCells.l0]) ?_
      rw [parseF, List.append_nil]
      rw [List.length_nil] at ho
      exact ev_neg (by simp) (impl_ParseCells_l1 out.length out rfl (by omega))
      all_goals simp
    | cons c rest =>
      rw [List.length_cons] at hn ho
      have hc := hr c (by simp)
      have hrest : ∀ x ∈ rest, 0 ≤ x ∧ x ≤ 4294967295 := fun x hx => hr x (by simp [hx])
      obtain ⟨h1, h2, h3⟩ := cells_one c rest hc hrest
      obtain ⟨hs1, hs2⟩ := one_small c rest
      have hlen : (cellsOf (parseOne c rest).1).length = (parseOne c rest).2 := by rw [h1, List.length_take, List.length_cons]; omega
      have e1 := impl_parseOne_ev c rest hc hrest (by omega)
      have e2 := impl_CellsOf_ev (parseOne c rest).1 hs1 hs2
      have next := ih ((c :: rest).drop (parseOne c rest).2) (out ++ [(parseOne c rest).1]) (by rw [List.length_drop, List.length_cons]; omega) (by rw [List.length_drop, List.length_cons, List.length_append, List.length_singleton]; omega) (drop_mem hr _)
      rw [List.append_assoc, List.singleton_append, List.map_append, List.map_cons, List.map_nil] at next
      refine Ev.step (fun k => by rw [impl_ParseCells.l0]) ?_
      rw [parseF]
      refine ev_pos (by rw [List.length_cons]; omega) (ev_bind e1 (ev_pos (by rw [List.length_map]; omega) (ev_bind e2 (ev_pos (by omega) (ev_pos (by rw [List.length_cons]; omega) ?_)))))
      rw [Int.toNat_natCast, hlen]
      exact next
theorem impl_ParseCells_ev (l : List Int) (hl : l.length ≤ 70368744177664) (hr : ∀ x ∈ l, 0 ≤ x ∧ x ≤ 4294967295) : Ev (fun k => impl_ParseCells.f k l) ((parse l).map toS) := by
  unfold parse
  by_cases h : l.length > 64
  · rw [if_pos h]
    exact ev_pos (by omega) (ev_ret rfl)
  · rw [if_neg h]
    exact ev_neg (by omega) (impl_ParseCells_l0 l.length l [] (Nat.le_refl _) (by simp only [List.length_nil]; omega) hr)

/-! ### impl_StoreOk -/
theorem impl_StoreOk_eq (l : List Int) : impl_StoreOk.f l = some (decide ((l.length : Int) % 64 = 0 ∧ (l.length : Int) ≤ 768)) := by
  unfold impl_StoreOk.f
  by_cases h : (l.length : Int) % 64 = 0
  · rw [if_pos h]; simp [h]
  · rw [if_neg h]; simp [h]

/-! ### impl_hasBlocks -/
theorem impl_hasBlocks_eq (l : List Int) (b : Int) (hl : l.length ≤ 1048576) : impl_hasBlocks.f l [b] = some (decide (hasBlock l b)) := by
  unfold impl_hasBlocks.f
  simp only
  rw [impl_StoreOk_eq]
  simp only [Option.bind_some]
  rw [w64 (x := (l.length : Int) / 64) (by omega) (by omega), w64 (by omega) (by omega)]
  by_cases hh : hasBlock l b
  · rw [decide_eq_true hh]
    obtain ⟨h, h2, h3⟩ := hh
    rw [if_pos (decide_eq_true h), impl_within_eq, decide_eq_true (by omega)]
  · rw [decide_eq_false hh]
    by_cases h : (l.length : Int) % 64 = 0 ∧ (l.length : Int) ≤ 768
    · rw [if_pos (decide_eq_true h), impl_within_eq, decide_eq_false (fun x => hh ⟨h, x.1, by omega⟩)]
    · rw [if_neg (by simpa using h)]

/-! ### slices_Clone_uint32_uint32 -/
theorem slices_Clone_u32_eq (l : List Int) (hl : l.length ≤ 35184372088831) : slices_Clone_uint32_uint32.f l = some l := if_pos hl

/-! ### impl_BlockOf -/
theorem impl_BlockOf_eq (l : List Int) (b : Int) (hl : l.length ≤ 1048576) : impl_BlockOf.f l b = some (blockOf l b) := by
  unfold impl_BlockOf.f
  rw [impl_hasBlocks_eq l b hl]
  simp only [Option.bind_some]
  by_cases h : hasBlock l b
  · have hc := blockAt_length h
    unfold blockOf blockAt at *
    rw [if_pos h, if_pos (decide_eq_true h)]
    obtain ⟨⟨h1, h2⟩, h3, h4⟩ := h
    rw [w64 (x := b * 64) (by omega) (by omega), w64 (x := b + 1) (by omega) (by omega), w64 (x := (b + 1) * 64) (by omega) (by omega)]
    rw [if_pos (by omega), if_pos (by omega), if_pos (by omega), slices_Clone_u32_eq _ (by rw [hc]; omega)]
    rfl
  · unfold blockOf
    rw [if_neg h, if_neg (by simpa using h)]

/-! ### impl_ItemsOf -/
theorem impl_ItemsOf_ev (l : List Int) (b : Int) (hl : l.length ≤ 1048576) (hr : ∀ x ∈ l, 0 ≤ x ∧ x ≤ 4294967295) : Ev (fun k => impl_ItemsOf.f k l b) ((parse (blockOf l b).1).map toS, (blockOf l b).2) := by
  have hbl := blockOf_length l b
  have hbr := blockOf_range l b hr
  exact ev_bind (ev_eq (impl_BlockOf_eq l b hl)) (ev_bind (impl_ParseCells_ev _ (by omega) hbr) (ev_ret rfl))

/-! ### FnExactItemsOf -/
theorem FnExactItemsOf : laws_FnExactItemsOf.Pure := by
  intro l b hl hz hw wb
  refine Ev.rounds (r := true) ?_
  refine ev_bind (ev_eq (laws_szStore_eq l 1048576 (by omega) (by omega) hl)) ?_
  by_cases h : (l.length : Int) ≤ 1048576
  · rw [if_pos h]
    have hr : ∀ x ∈ l, 0 ≤ x ∧ x ≤ 4294967295 := fun x h => wf_u32 (hw x h)
    have hlb : l.length ≤ 70368744177664 := by omega
    have e1 := spec_ItemsOf_ev l b (by omega) hr
    have e2 := impl_ItemsOf_ev l b (by omega) hr
    have hc : ((parse (blockOf l b).1).map toS).length ≤ 64 := by rw [List.length_map]; exact parse_length _ (blockOf_range l b hr)
    generalize (parse (blockOf l b).1).map toS = t at e1 e2 hc
    generalize (blockOf l b).2 = ok at e1 e2
    obtain ⟨em, eh⟩ := laws_marks t (by omega)
    refine ev_neg (by omega) (ev_bind (laws_toStore_ev l hlb) (ev_bind e1 (ev_bind (laws_toStore_ev l hlb) (ev_bind e2 (ev_bind (laws_eqItemS_ev t (by omega)) (ev_pos rfl ?_))))))
    refine Ev.step (fun k => by rw [laws_FnExactItemsOf.j0]) ?_
    refine ev_neg (by simp) (ev_bind (laws_toStore_ev l hlb) (ev_bind (laws_eqStore_ev l hlb) (ev_pos rfl (ev_bind (laws_markStore_ev l hlb 1 (by omega) (by omega)) (ev_neg (by simp only; omega) (ev_bind (laws_eqItemS_ev t (by omega)) (ev_pos rfl ?_)))))))
    refine Ev.step (fun k => by rw [laws_FnExactItemsOf.j1]) ?_
    refine ev_neg (by simp) (ev_bind em (ev_bind eh (ev_neg (by omega) (ev_pos rfl ?_))))
    refine ev_bind (laws_toStore_ev l hlb) (ev_bind e2 (ev_bind (laws_eqItemS_ev t (by omega)) (ev_pos rfl ?_)))
    refine Ev.step (fun k => by rw [laws_FnExactItemsOf.j2]) ?_
    exact ev_neg (by simp) (ev_bind eh (ev_neg (by omega) (ev_pos rfl (ev_ret rfl))))
  · rw [if_neg h]
    exact ev_pos (by omega) (ev_ret rfl)

end Go.Proofs.Ytkkiibjnpkjijaa.Pure
