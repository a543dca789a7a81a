/-
The law FnExactReadImage holds of the printed plain functions, for all arguments that the printed bounds allow.
-/
import Derived.Test.YtkkiibjnpkjijaaQFnExactReadImagex1
import Derived.Test.YtkkiibjnpkjijaaQFnExactReadImagex2
import Derived.Test.YtkkiibjnpkjijaaQFnExactReadImagex3
import Derived.Test.YtkkiibjnpkjijaaQFnExactReadImagex4
import Derived.Test.YtkkiibjnpkjijaaQFnExactReadImagex5
import Derived.Test.YtkkiibjnpkjijaaQFnExactReadImagex6
import Derived.Test.YtkkiibjnpkjijaaTools
import Derived.Test.YtkkiibjnpkjijaaNums
import Derived.Test.YtkkiibjnpkjijaaLetters
import Derived.Test.YtkkiibjnpkjijaaHeads
import Derived.Test.YtkkiibjnpkjijaaStores
import Derived.Test.YtkkiibjnpkjijaaXors
import Derived.Test.YtkkiibjnpkjijaaSpots
import Derived.Test.YtkkiibjnpkjijaaNames
import Derived.Test.YtkkiibjnpkjijaaDraws
import Derived.Test.YtkkiibjnpkjijaaImages
import Derived.Test.YtkkiibjnpkjijaaBytes4
namespace Go.Proofs.Ytkkiibjnpkjijaa.Pure
open Go.RowKit Go.Proofs.Ytkkiibjnpkjijaa.QFnExactReadImage Go.Proofs.YtkkiibjnpkjijaaW.PrintWords Go.Proofs.YtkkiibjnpkjijaaW.PrintLast Go.Proofs.YtkkiibjnpkjijaaW.PrintMore Go.Proofs.Ytkkiibjnpkjijaa.Tools Go.Proofs.Ytkkiibjnpkjijaa.Plain
set_option linter.unusedVariables false

/-! ### spec_Sum -/
theorem spec_Sum_l0 (l : List Int) (hl : l.length ≤ 70368744177664) (d : Nat) : ∀ (h : Int) (i : Nat), i + d = l.length → Ev (fun k => spec_Sum.l0 k l h (i : Int)) (sumFrom h (l.drop i)) := by
  induction d with
  | zero =>
    intro h i hi
    refine Ev.step (fun k => by rw [spec_Sum.l0]) ?_
    refine ev_neg (by omega) (ev_ret ?_)
    rw [List.drop_of_length_le (by omega)]; rfl
  | succ d ih =>
    intro h i hi
    refine Ev.step (fun k => by rw [spec_Sum.l0]) ?_
    refine ev_pos (by omega) (ev_pos (by omega) ?_)
    rw [w64 (by omega) (by omega), show ((i : Int) + 1) = ((i + 1 : Nat) : Int) by omega, rd_nat (by omega), List.drop_eq_getElem_cons (by omega : i < l.length)]
    exact ih _ (i + 1) (by omega)
theorem spec_Sum_ev (l : List Int) (hl : l.length ≤ 70368744177664) : Ev (fun k => spec_Sum.f k l) (sumOf l) := spec_Sum_l0 l hl l.length 2166136261 0 (by omega)

/-! ### spec_ReadImage -/
theorem spec_ReadImage_l0 (g : Int) (cs : List Int) (s : Int) (hcs : cs.length ≤ 1000000) (hr : ∀ x ∈ cs ++ [s], 0 ≤ x ∧ x ≤ 4294967295) (d : Nat) : ∀ (i : Nat), i + d = cs.length + 1 →
    Ev (fun k => spec_ReadImage.l0 k (g :: bytesFrom (cs ++ [s])) ((cs ++ [s]).take i) ((1 + 4 * i : Nat) : Int)) (if s = sumOf cs then (cs, true) else ([], false)) := by
  have hl2 : (cs ++ [s]).length = cs.length + 1 := by rw [List.length_append, List.length_singleton]
  have hlen : (g :: bytesFrom (cs ++ [s])).length = 5 + 4 * cs.length := by rw [List.length_cons, bytesFrom_length, hl2]; omega
  induction d with
  | zero =>
    intro i hi
    have hic : i = cs.length + 1 := by omega
    subst hic
    refine Ev.step (fun k => by rw [spec_ReadImage.l0]) ?_
    have e1 : (cs ++ [s]).take (cs.length + 1) = cs ++ [s] := List.take_of_length_le (by omega)
    have e2 : wrap64 (((cs ++ [s]).length : Int) - 1) = (cs.length : Int) := by rw [hl2, w64 (by omega) (by omega)]; omega
    rw [e1, e2, Int.toNat_natCast, List.take_left' rfl]
    refine ev_neg (by omega) (ev_pos (by omega) (ev_pos (by omega) (ev_bind (spec_Sum_ev cs (by omega)) (ev_pos (by omega) ?_))))
    have e3 : rd (cs ++ [s]) (cs.length : Int) = s := by simp [rd]
    rw [e3]
    exact ev_ite (fun h => ev_ret (if_pos h.symm).symm) (fun h => ev_ret (if_neg (fun e => h e.symm)).symm)
  | succ d ih =>
    intro i hi
    have hlt : i < (cs ++ [s]).length := by omega
    have next := ih (i + 1) (by omega)
    have hdrop : (g :: bytesFrom (cs ++ [s])).drop (1 + 4 * i) = four (cs ++ [s])[i] ++ bytesFrom ((cs ++ [s]).drop (i + 1)) := by
      rw [show 1 + 4 * i = 4 * i + 1 by omega, List.drop_succ_cons, bytesFrom_drop _ _ (by omega), List.drop_eq_getElem_cons hlt, bytesFrom]
    have hc := hr _ (List.getElem_mem hlt)
    rw [List.take_succ_eq_append_getElem hlt] at next
    generalize (cs ++ [s])[i] = c at *
    have e0 : rd (g :: bytesFrom (cs ++ [s])) ((1 + 4 * i : Nat) : Int) = c % 256 := by
      have := rd_drop (g :: bytesFrom (cs ++ [s])) (1 + 4 * i) 0
      rw [hdrop, Nat.add_zero] at this
      rw [this]; simp [rd, four]
    have e1 : rd (g :: bytesFrom (cs ++ [s])) ((1 + 4 * i + 1 : Nat) : Int) = c / 256 % 256 := by
      rw [rd_drop, hdrop]; simp [rd, four]
    have e2 : rd (g :: bytesFrom (cs ++ [s])) ((1 + 4 * i + 2 : Nat) : Int) = c / 65536 % 256 := by
      rw [rd_drop, hdrop]; simp [rd, four]
    have e3 : rd (g :: bytesFrom (cs ++ [s])) ((1 + 4 * i + 3 : Nat) : Int) = c / 16777216 % 256 := by
      rw [rd_drop, hdrop]; simp [rd, four]
    have w1 : wrap64 (((1 + 4 * i : Nat) : Int) + 1) = ((1 + 4 * i + 1 : Nat) : Int) := by rw [w64 (by omega) (by omega)]; omega
    have w2 : wrap64 (((1 + 4 * i : Nat) : Int) + 2) = ((1 + 4 * i + 2 : Nat) : Int) := by rw [w64 (by omega) (by omega)]; omega
    have w3 : wrap64 (((1 + 4 * i : Nat) : Int) + 3) = ((1 + 4 * i + 3 : Nat) : Int) := by rw [w64 (by omega) (by omega)]; omega
    have w4 : wrap64 (((1 + 4 * i : Nat) : Int) + 4) = ((1 + 4 * (i + 1) : Nat) : Int) := by rw [w64 (by omega) (by omega)]; omega
    refine Ev.step (fun k => by rw [spec_ReadImage.l0]) ?_
    rw [w1, w2, w3, w4, e0, e1, e2, e3]
    clear w1 w2 w3 w4 e0 e1 e2 e3
    refine ev_pos (by omega) (ev_pos (by omega) (ev_pos (by omega) (ev_pos (by omega) (ev_pos (by omega) (ev_pos (by omega) (ev_pos (by omega) (ev_pos (by omega) (ev_pos (by rw [List.length_take]; omega) ?_))))))))
    have e : ((((((c % 256 % 4294967296) + ((c / 256 % 256 % 4294967296 * 256) % 4294967296)) % 4294967296) + ((c / 65536 % 256 % 4294967296 * 65536) % 4294967296)) % 4294967296) + ((c / 16777216 % 256 % 4294967296 * 16777216) % 4294967296)) % 4294967296 = c := by omega
    rw [e]
    exact next
theorem spec_ReadImage_ev (g : Int) (hg : 0 ≤ g ∧ g ≤ 12) (cs : List Int) (s : Int) (hcs : (cs.length : Int) = 64 * g) (hr : ∀ x ∈ cs ++ [s], 0 ≤ x ∧ x ≤ 4294967295) :
    Ev (fun k => spec_ReadImage.f k (g :: bytesFrom (cs ++ [s]))) (if s = sumOf cs then (cs, true) else ([], false)) := by
  have hlen : (g :: bytesFrom (cs ++ [s])).length = 5 + 4 * cs.length := by rw [List.length_cons, bytesFrom_length, List.length_append, List.length_singleton]; omega
  have hrd : rd (g :: bytesFrom (cs ++ [s])) 0 = g := rfl
  refine ev_neg (by omega) (ev_pos (by omega) ?_)
  rw [hrd, w64 (x := g) (by omega) (by omega), w64 (x := 256 * g) (by omega) (by omega), w64 (by omega) (by omega), hlen]
  refine ev_neg (by omega) ?_
  rw [show (((5 + 4 * cs.length : Nat) : Int) != 5 + 256 * g) = false from by simp; omega]
  refine Ev.step (fun k => by rw [spec_ReadImage.j0]) ?_
  exact ev_neg (by simp) (spec_ReadImage_l0 g cs s (by omega) hr (cs.length + 1) 0 (Nat.zero_add _))
theorem spec_ReadImage_bad (l : List Int) (hl : l.length ≤ 1048576) (hx : ∀ x ∈ l, 0 ≤ x ∧ x ≤ 255) (h : ¬ (5 ≤ l.length ∧ rd l 0 ≤ 12 ∧ (l.length : Int) = 5 + 256 * rd l 0)) : Ev (fun k => spec_ReadImage.f k l) ([], false) := by
  have bad : Ev (fun k => spec_ReadImage.j0 k l true) ([], false) := by
    refine Ev.step (fun k => by rw [spec_ReadImage.j0]) ?_
    exact ev_pos rfl (ev_ret rfl)
  refine ev_ite (fun _ => bad) (fun h5 => ?_)
  have hr : 0 ≤ rd l 0 ∧ rd l 0 ≤ 255 := by
    rw [rd_at (by omega) (by omega)]
    exact hx _ (List.getElem_mem _)
  generalize rd l 0 = g at *
  refine ev_pos (by omega) ?_
  rw [w64 (x := g) (by omega) (by omega), w64 (x := 256 * g) (by omega) (by omega), w64 (by omega) (by omega)]
  refine ev_ite (fun _ => bad) (fun h12 => ?_)
  rw [show ((l.length : Int) != 5 + 256 * g) = true from by simp; omega]
  exact bad

/-! ### laws_toByteS -/
theorem laws_toByteS_l0 (l : List Int) (hl : l.length ≤ 70368744177664) (d : Nat) : ∀ (ys : List Int) (i : Nat), ys.length = l.length → i + d = l.length → ys.take i = l.take i →
    Ev (fun k => laws_toByteS.l0 k l ys (i : Int)) l := by
  induction d with
  | zero =>
    intro ys i hy hi ht
    refine Ev.step (fun k => by rw [laws_toByteS.l0]) ?_
    refine ev_neg (by omega) (ev_ret ?_)
    rw [List.take_of_length_le (by omega), List.take_of_length_le (by omega)] at ht
    exact ht
  | succ d ih =>
    intro ys i hy hi ht
    refine Ev.step (fun k => by rw [laws_toByteS.l0]) ?_
    refine ev_pos (by omega) (ev_pos (by omega) (ev_pos (by omega) ?_))
    rw [w64 (by omega) (by omega), show ((i : Int) + 1) = ((i + 1 : Nat) : Int) by omega]
    refine ih _ (i + 1) (by simp [hy]) (by omega) ?_
    rw [rd_nat (by omega)]
    simp only [Int.toNat_natCast]
    rw [List.take_succ_eq_append_getElem (by simp; omega), List.take_succ_eq_append_getElem (by omega : i < l.length)]
    rw [List.take_set_of_le (by omega), ht]
    simp
theorem laws_toByteS_ev (l : List Int) (hl : l.length ≤ 70368744177664) : Ev (fun k => laws_toByteS.f k l) l := by
  unfold laws_toByteS.f
  refine ev_pos (by omega) (ev_pos (by simp; omega) ?_)
  exact laws_toByteS_l0 l hl l.length _ 0 (by simp) (by omega) (by simp)

/-! ### impl_lowFirst -/
theorem impl_lowFirst_eq (c : Int) (hc : 0 ≤ c ∧ c ≤ 4294967295) (r : List Int) : impl_lowFirst.f (four c ++ r) = some c := by
  unfold impl_lowFirst.f
  have e0 : rd (four c ++ r) 0 = c % 256 := by simp [rd, four]
  have e1 : rd (four c ++ r) 1 = c / 256 % 256 := by simp [rd, four]
  have e2 : rd (four c ++ r) 2 = c / 65536 % 256 := by simp [rd, four]
  have e3 : rd (four c ++ r) 3 = c / 16777216 % 256 := by simp [rd, four]
  have hl : (four c ++ r).length = r.length + 4 := by simp [four]
  rw [if_pos (by omega), if_pos (by omega), if_pos (by omega), if_pos (by omega), e0, e1, e2, e3]
  congr 1
  rw [or_comm_u32 (c % 256 % 4294967296), or_u32 (x := c / 256 % 256 % 4294967296 * 256 % 4294967296) (y := c % 256 % 4294967296) 8 (by omega) (by omega) (by omega) (by omega) (by omega)]
  rw [or_comm_u32 (c / 256 % 256 % 4294967296 * 256 % 4294967296 + c % 256 % 4294967296), or_u32 (x := c / 65536 % 256 % 4294967296 * 65536 % 4294967296) (y := c / 256 % 256 % 4294967296 * 256 % 4294967296 + c % 256 % 4294967296) 16 (by omega) (by omega) (by omega) (by omega) (by omega)]
  rw [or_comm_u32, or_u32 (x := c / 16777216 % 256 % 4294967296 * 16777216 % 4294967296) 24 (by omega) (by omega) (by omega) (by omega) (by omega)]
  omega

/-! ### impl_Sum -/
theorem impl_Sum_l0 (l : List Int) (hl : l.length ≤ 70368744177664) (d : Nat) : ∀ (h : Int) (i : Nat), i + d = l.length → Ev (fun k => impl_Sum.l0 k h l (l.length : Int) (i : Int)) (sumFrom h (l.drop i)) := by
  induction d with
  | zero =>
    intro h i hi
    refine Ev.step (fun k => by rw [impl_Sum.l0]) ?_
    refine ev_neg (by omega) (ev_ret ?_)
    rw [List.drop_of_length_le (by omega)]; rfl
  | succ d ih =>
    intro h i hi
    refine Ev.step (fun k => by rw [impl_Sum.l0]) ?_
    refine ev_pos (by omega) (ev_pos (by omega) (ev_pos (by omega) ?_))
    rw [w64 (by omega) (by omega), show ((i : Int) + 1) = ((i + 1 : Nat) : Int) by omega, rd_nat (by omega), List.drop_eq_getElem_cons (by omega : i < l.length)]
    exact ih _ (i + 1) (by omega)
theorem impl_Sum_ev (l : List Int) (hl : l.length ≤ 70368744177664) : Ev (fun k => impl_Sum.f k l) (sumOf l) := impl_Sum_l0 l hl l.length 2166136261 0 (by omega)

/-! ### impl_ReadImage -/
theorem impl_ReadImage_l0 (g : Int) (cs : List Int) (s : Int) (hcs : cs.length ≤ 1000000) (hr : ∀ x ∈ cs, 0 ≤ x ∧ x ≤ 4294967295) (hs : 0 ≤ s ∧ s ≤ 4294967295) (d : Nat) : ∀ (i : Nat), i + d = cs.length →
    Ev (fun k => impl_ReadImage.l0 k (g :: bytesFrom (cs ++ [s])) ((1 + 4 * i : Nat) : Int) (cs.take i)) (if s = sumOf cs then (cs, true) else ([], false)) := by
  have hlen : (g :: bytesFrom (cs ++ [s])).length = 5 + 4 * cs.length := by rw [List.length_cons, bytesFrom_length, List.length_append, List.length_singleton]; omega
  have ew : wrap64 (((g :: bytesFrom (cs ++ [s])).length : Int) - 4) = ((1 + 4 * cs.length : Nat) : Int) := by rw [hlen, w64 (by omega) (by omega)]; omega
  have hdrop : ∀ i : Nat, i ≤ cs.length → (g :: bytesFrom (cs ++ [s])).drop (1 + 4 * i) = bytesFrom ((cs ++ [s]).drop i) := by
    intro i hi
    rw [show 1 + 4 * i = 4 * i + 1 by omega, List.drop_succ_cons, bytesFrom_drop _ _ (by rw [List.length_append, List.length_singleton]; omega)]
  induction d with
  | zero =>
    intro i hi
    have hic : i = cs.length := by omega
    subst hic
    refine Ev.step (fun k => by rw [impl_ReadImage.l0]) ?_
    rw [ew, Int.toNat_natCast, hdrop _ (Nat.le_refl _), List.drop_append_of_le_length (Nat.le_refl _), List.drop_of_length_le (Nat.le_refl _), List.take_of_length_le (Nat.le_refl _), List.nil_append, bytesFrom]
    refine ev_neg (by omega) (ev_pos (by omega) (ev_pos (by omega) (ev_bind (ev_eq (impl_lowFirst_eq s hs _)) (ev_bind (impl_Sum_ev cs (by omega)) ?_))))
    exact ev_ite (fun h => ev_ret (if_pos h).symm) (fun h => ev_ret (if_neg h).symm)
  | succ d ih =>
    intro i hi
    have hlt : i < cs.length := by omega
    have next := ih (i + 1) (by omega)
    refine Ev.step (fun k => by rw [impl_ReadImage.l0]) ?_
    rw [ew, Int.toNat_natCast, hdrop _ (by omega), List.drop_append_of_le_length (by omega), List.drop_eq_getElem_cons hlt, List.cons_append, bytesFrom]
    refine ev_pos (by omega) (ev_pos (by omega) (ev_pos (by omega) (ev_bind (ev_eq (impl_lowFirst_eq _ (hr _ (List.getElem_mem _)) _)) (ev_pos (by rw [List.length_take]; omega) ?_))))
    rw [w64 (by omega) (by omega), show (((1 + 4 * i : Nat) : Int) + 4) = ((1 + 4 * (i + 1) : Nat) : Int) by omega, ← List.take_succ_eq_append_getElem hlt]
    exact next
theorem impl_ReadImage_ev (g : Int) (hg : 0 ≤ g ∧ g ≤ 255) (cs : List Int) (s : Int) (hcs : cs.length ≤ 1000000) (hr : ∀ x ∈ cs, 0 ≤ x ∧ x ≤ 4294967295) (hs : 0 ≤ s ∧ s ≤ 4294967295) :
    Ev (fun k => impl_ReadImage.f k (g :: bytesFrom (cs ++ [s]))) (if g ≤ 12 ∧ (cs.length : Int) = 64 * g then (if s = sumOf cs then (cs, true) else ([], false)) else ([], false)) := by
  have hlen : (g :: bytesFrom (cs ++ [s])).length = 5 + 4 * cs.length := by rw [List.length_cons, bytesFrom_length, List.length_append, List.length_singleton]; omega
  have hrd : rd (g :: bytesFrom (cs ++ [s])) 0 = g := rfl
  have bad : Ev (fun k => impl_ReadImage.j0 k (g :: bytesFrom (cs ++ [s])) true) ([], false) := by
    refine Ev.step (fun k => by rw [impl_ReadImage.j0]) ?_
    exact ev_pos rfl (ev_ret rfl)
  refine ev_neg (by omega) (ev_pos (by omega) ?_)
  rw [hrd]
  by_cases h12 : g > 12
  · rw [if_neg (by omega)]
    exact ev_pos h12 bad
  refine ev_neg h12 ?_
  rw [w64 (x := g) (by omega) (by omega), w64 (x := 256 * g) (by omega) (by omega), w64 (by omega) (by omega), hlen]
  by_cases hn : (cs.length : Int) = 64 * g
  · rw [if_pos ⟨by omega, hn⟩, show (((5 + 4 * cs.length : Nat) : Int) != 5 + 256 * g) = false from by simp; omega]
    refine Ev.step (fun k => by rw [impl_ReadImage.j0]) ?_
    exact ev_neg (by simp) (impl_ReadImage_l0 g cs s hcs hr hs cs.length 0 (Nat.zero_add _))
  · rw [if_neg (fun h => hn h.2), show (((5 + 4 * cs.length : Nat) : Int) != 5 + 256 * g) = true from by simp; omega]
    exact bad

/-! ### laws_eqUint32S -/
theorem laws_eqUint32S_l0 (l : List Int) (hl : l.length ≤ 70368744177664) (d : Nat) : ∀ (i : Nat), i + d = l.length → Ev (fun k => laws_eqUint32S.l0 k l l (i : Int)) true := by
  induction d with
  | zero =>
    intro i hi
    refine Ev.step (fun k => by rw [laws_eqUint32S.l0]) ?_
    exact ev_neg (by omega) (ev_ret rfl)
  | succ d ih =>
    intro i hi
    refine Ev.step (fun k => by rw [laws_eqUint32S.l0]) ?_
    refine ev_pos (by omega) (ev_pos (by omega) (ev_pos (by omega) (ev_pos rfl ?_)))
    rw [w64 (by omega) (by omega), show ((i : Int) + 1) = ((i + 1 : Nat) : Int) by omega]
    exact ih (i + 1) (by omega)
theorem laws_eqUint32S_ev (l : List Int) (hl : l.length ≤ 70368744177664) : Ev (fun k => laws_eqUint32S.f k l l) true :=
  ev_pos rfl (laws_eqUint32S_l0 l hl l.length 0 (by omega))

/-! ### laws_eqStore -/
theorem laws_eqStore_ev (l : List Int) (hl : l.length ≤ 70368744177664) : Ev (fun k => laws_eqStore.f k l l) true :=
  ev_bind (laws_eqUint32S_ev l hl) (ev_pos rfl (ev_ret rfl))

/-! ### laws_eqByteS -/
theorem laws_eqByteS_l0 (l : List Int) (hl : l.length ≤ 70368744177664) (d : Nat) : ∀ (i : Nat), i + d = l.length → Ev (fun k => laws_eqByteS.l0 k l l (i : Int)) true := by
  induction d with
  | zero =>
    intro i hi
    refine Ev.step (fun k => by rw [laws_eqByteS.l0]) ?_
    exact ev_neg (by omega) (ev_ret rfl)
  | succ d ih =>
    intro i hi
    refine Ev.step (fun k => by rw [laws_eqByteS.l0]) ?_
    refine ev_pos (by omega) (ev_pos (by omega) (ev_pos (by omega) (ev_pos rfl ?_)))
    rw [w64 (by omega) (by omega), show ((i : Int) + 1) = ((i + 1 : Nat) : Int) by omega]
    exact ih (i + 1) (by omega)
theorem laws_eqByteS_ev (l : List Int) (hl : l.length ≤ 70368744177664) : Ev (fun k => laws_eqByteS.f k l l) true :=
  ev_pos rfl (laws_eqByteS_l0 l hl l.length 0 (by omega))

/-! ### laws_markByteS -/
theorem laws_markByteS_l0 (n : Nat) (hn : n ≤ 70368744177664) (d : Nat) : ∀ (ys : List Int) (i : Nat) (m : Int), 1 ≤ m → m + d ≤ 9000000000000000000 → ys.length = n → i + d = n →
    Ev (fun k => laws_markByteS.l0 k ys m (i : Int)) (m + d, ys.take i ++ marksB m d) := by
  induction d with
  | zero =>
    intro ys i m h1 h2 hy hi
    refine Ev.step (fun k => by rw [laws_markByteS.l0]) ?_
    refine ev_neg (by omega) (ev_ret ?_)
    rw [List.take_of_length_le (by omega)]; simp [marksB]
  | succ d ih =>
    intro ys i m h1 h2 hy hi
    refine Ev.step (fun k => by rw [laws_markByteS.l0]) ?_
    refine ev_pos (by omega) (ev_pos (by omega) ?_)
    rw [w64 (by omega) (by omega), w64 (by omega) (by omega), show ((i : Int) + 1) = ((i + 1 : Nat) : Int) by omega]
    refine ev_to (ih _ (i + 1) (m + 1) (by omega) (by omega) (by simp [hy]) (by omega)) ?_
    simp only [Int.toNat_natCast]
    rw [List.take_succ_eq_append_getElem (by simp; omega), List.take_set_of_le (by omega), List.append_assoc]
    simp [marksB]; omega
theorem laws_markByteS_ev (l : List Int) (hl : l.length ≤ 70368744177664) (m : Int) (h1 : 1 ≤ m) (h2 : m ≤ 1000000000000000000) : Ev (fun k => laws_markByteS.f k l m) (m + l.length, marksB m l.length) :=
  laws_markByteS_l0 l.length hl l.length l 0 m h1 (by omega) rfl (by omega)

/-! ### laws_markUint32S -/
theorem laws_markUint32S_l0 (n : Nat) (hn : n ≤ 70368744177664) (d : Nat) : ∀ (ys : List Int) (i : Nat) (m : Int), 1 ≤ m → m + d ≤ 9000000000000000000 → ys.length = n → i + d = n →
    Ev (fun k => laws_markUint32S.l0 k ys m (i : Int)) (m + d, ys.take i ++ marksU m d) := by
  induction d with
  | zero =>
    intro ys i m h1 h2 hy hi
    refine Ev.step (fun k => by rw [laws_markUint32S.l0]) ?_
    refine ev_neg (by omega) (ev_ret ?_)
    rw [List.take_of_length_le (by omega)]; simp [marksU]
  | succ d ih =>
    intro ys i m h1 h2 hy hi
    refine Ev.step (fun k => by rw [laws_markUint32S.l0]) ?_
    refine ev_pos (by omega) (ev_pos (by omega) ?_)
    rw [w64 (by omega) (by omega), w64 (by omega) (by omega), show ((i : Int) + 1) = ((i + 1 : Nat) : Int) by omega]
    refine ev_to (ih _ (i + 1) (m + 1) (by omega) (by omega) (by simp [hy]) (by omega)) ?_
    simp only [Int.toNat_natCast]
    rw [List.take_succ_eq_append_getElem (by simp; omega), List.take_set_of_le (by omega), List.append_assoc]
    simp [marksU]; omega
theorem laws_markUint32S_ev (l : List Int) (hl : l.length ≤ 70368744177664) (m : Int) (h1 : 1 ≤ m) (h2 : m ≤ 1000000000000000000) : Ev (fun k => laws_markUint32S.f k l m) (m + l.length, marksU m l.length) :=
  laws_markUint32S_l0 l.length hl l.length l 0 m h1 (by omega) rfl (by omega)

/-! ### laws_markStore -/
theorem laws_markStore_ev (l : List Int) (hl : l.length ≤ 70368744177664) (m : Int) (h1 : 1 ≤ m) (h2 : m ≤ 1000000000000000000) : Ev (fun k => laws_markStore.f k l m) (m + l.length, marksU m l.length) :=
  ev_bind (laws_markUint32S_ev l hl m h1 h2) (ev_ret rfl)

/-! ### laws_heldUint32S -/
theorem laws_heldUint32S_l0 (n : Nat) (hn : n ≤ 70368744177664) (d : Nat) : ∀ (ys : List Int) (i : Nat) (m : Int), 1 ≤ m → m + d ≤ 9000000000000000000 → ys.length = n → i + d = n → ys.drop i = marksU m d →
    Ev (fun k => laws_heldUint32S.l0 k ys m (i : Int)) (m + d) := by
  induction d with
  | zero =>
    intro ys i m h1 h2 hy hi ht
    refine Ev.step (fun k => by rw [laws_heldUint32S.l0]) ?_
    exact ev_neg (by omega) (ev_ret (by simp))
  | succ d ih =>
    intro ys i m h1 h2 hy hi ht
    rw [List.drop_eq_getElem_cons (by omega : i < ys.length), marksU] at ht
    injection ht with hx ht
    refine Ev.step (fun k => by rw [laws_heldUint32S.l0]) ?_
    refine ev_pos (by omega) (ev_pos (by omega) (ev_pos (by rw [rd_nat (by omega), hx]) ?_))
    rw [w64 (by omega) (by omega), w64 (by omega) (by omega), show ((i : Int) + 1) = ((i + 1 : Nat) : Int) by omega]
    exact ev_to (ih _ (i + 1) (m + 1) (by omega) (by omega) hy (by omega) ht) (by omega)
theorem laws_heldUint32S_ev (n : Nat) (hl : n ≤ 70368744177664) (m : Int) (h1 : 1 ≤ m) (h2 : m ≤ 1000000000000000000) : Ev (fun k => laws_heldUint32S.f k (marksU m n) m) (m + n) :=
  laws_heldUint32S_l0 n hl n _ 0 m h1 (by omega) (marksU_length n m) (by omega) rfl

/-! ### laws_heldStore -/
theorem laws_heldStore_ev (n : Nat) (hl : n ≤ 70368744177664) (m : Int) (h1 : 1 ≤ m) (h2 : m ≤ 1000000000000000000) : Ev (fun k => laws_heldStore.f k (marksU m n) m) (m + n) :=
  ev_bind (laws_heldUint32S_ev n hl m h1 h2) (ev_neg (by omega) (ev_ret rfl))

/-! ### FnExactReadImage -/
theorem impl_ReadImage_bad (l : List Int) (hl : l.length ≤ 1048576) (hx : ∀ x ∈ l, 0 ≤ x ∧ x ≤ 255) (h : ¬ (5 ≤ l.length ∧ rd l 0 ≤ 12 ∧ (l.length : Int) = 5 + 256 * rd l 0)) : Ev (fun k => impl_ReadImage.f k l) ([], false) := by
  have bad : Ev (fun k => impl_ReadImage.j0 k l true) ([], false) := by
    refine Ev.step (fun k => by rw [impl_ReadImage.j0]) ?_
    exact ev_pos rfl (ev_ret rfl)
  refine ev_ite (fun _ => bad) (fun h5 => ?_)
  have hr : 0 ≤ rd l 0 ∧ rd l 0 ≤ 255 := by
    rw [rd_at (by omega) (by omega)]
    exact hx _ (List.getElem_mem _)
  generalize rd l 0 = g at *
  refine ev_pos (by omega) ?_
  rw [w64 (x := g) (by omega) (by omega), w64 (x := 256 * g) (by omega) (by omega), w64 (by omega) (by omega)]
  refine ev_ite (fun _ => bad) (fun h12 => ?_)
  rw [show ((l.length : Int) != 5 + 256 * g) = true from by simp; omega]
  exact bad
theorem FnExactReadImage : laws_FnExactReadImage.Pure := by
  intro l hl hz hw
  have hx : ∀ x ∈ l, 0 ≤ x ∧ x ≤ 255 := fun x h => wf_u8 (hw x h)
  refine Ev.rounds (r := true) ?_
  refine ev_ite (fun _ => ev_ret rfl) (fun hs => ?_)
  have hb : l.length ≤ 70368744177664 := by omega
  obtain ⟨r, hr1, hr2, hrl⟩ : ∃ r : List Int × Bool, Ev (fun k => spec_ReadImage.f k l) r ∧ Ev (fun k => impl_ReadImage.f k l) r ∧ r.1.length ≤ 1048576 := by
    by_cases h : 5 ≤ l.length ∧ rd l 0 ≤ 12 ∧ (l.length : Int) = 5 + 256 * rd l 0
    · match l, h, hx, hs with
      | g :: r, h, hx, hs =>
        have e0 : rd (g :: r) 0 = g := rfl
        rw [e0, List.length_cons] at h
        have hg := hx g (by simp)
        obtain ⟨ds, h1, h2, h3⟩ := cells_of_bytes (64 * g.toNat + 1) r (by omega) (fun x h => hx x (by simp [h]))
        obtain ⟨cs, s, rfl, h4⟩ := split_last (64 * g.toNat) ds h1
        subst h3
        refine ⟨if s = sumOf cs then (cs, true) else ([], false), spec_ReadImage_ev g (by omega) cs s (by omega) h2, ?_, ?_⟩
        · have e := impl_ReadImage_ev g (by omega) cs s (by omega) (fun x hx => h2 x (by simp [hx])) (h2 s (by simp))
          rw [if_pos ⟨by omega, by omega⟩] at e
          exact e
        · split
          · simp only; omega
          · simp
    · exact ⟨([], false), spec_ReadImage_bad l (by omega) hx h, impl_ReadImage_bad l (by omega) hx h, by simp⟩
  obtain ⟨t, ok⟩ := r
  simp only at hrl
  have hcb : t.length ≤ 70368744177664 := by omega
  refine ev_bind (laws_toByteS_ev l hb) (ev_bind hr1 (ev_bind (laws_toByteS_ev l hb) (ev_bind hr2 (ev_bind (laws_eqStore_ev t hcb) (ev_pos rfl ?_)))))
  refine Ev.step (fun k => by rw [laws_FnExactReadImage.j0]) ?_
  refine ev_neg (by simp) (ev_bind (laws_toByteS_ev l hb) (ev_bind (laws_eqByteS_ev l hb) (ev_pos rfl (ev_bind (laws_markByteS_ev l hb 1 (by omega) (by omega)) (ev_neg (by simp only; omega) (ev_bind (laws_eqStore_ev t hcb) (ev_pos rfl ?_)))))))
  refine Ev.step (fun k => by rw [laws_FnExactReadImage.j1]) ?_
  refine ev_neg (by simp) (ev_bind (laws_markStore_ev t hcb 1 (by omega) (by omega)) (ev_bind (laws_heldStore_ev _ hcb 1 (by omega) (by omega)) (ev_neg (by omega) (ev_pos rfl ?_))))
  refine ev_bind (laws_toByteS_ev l hb) (ev_bind hr2 (ev_bind (laws_eqStore_ev t hcb) (ev_pos rfl ?_)))
  refine Ev.step (fun k => by rw [laws_FnExactReadImage.j2]) ?_
  exact ev_neg (by simp) (ev_bind (laws_heldStore_ev _ hcb 1 (by omega) (by omega)) (ev_neg (by omega) (ev_pos rfl (ev_ret rfl))))

end Go.Proofs.Ytkkiibjnpkjijaa.Pure
