/-
The law FnExactLines holds of the printed plain functions, for all arguments that the printed bounds allow.
-/
import Derived.Test.YtamdgigcngeanaaDoorQFnExactLinesx1
import Derived.Test.YtamdgigcngeanaaDoorQFnExactLinesx2
import Derived.Test.YtamdgigcngeanaaDoorTools
import Derived.Test.YtamdgigcngeanaaDoorSpots
import Derived.Test.YtamdgigcngeanaaDoorLines
namespace Go.Proofs.YtamdgigcngeanaaDoor.Pure
open Go.RowKit Go.Proofs.YtamdgigcngeanaaDoor.QFnExactLines Go.Proofs.YtamdgigcngeanaaDoorW.PrintWords Go.Proofs.YtamdgigcngeanaaDoorW.PrintLast Go.Proofs.YtamdgigcngeanaaDoorW.PrintMore Go.Proofs.YtamdgigcngeanaaDoor.Tools Go.Proofs.YtamdgigcngeanaaDoor.Plain
set_option linter.unusedVariables false

/-! ### spec_Lines -/
theorem spec_Lines_l0 (s : ByteArray) (hs : s.size ≤ 1048576) (d : Nat) : ∀ (i a : Nat) (out : List ByteArray), i + d = s.size → a ≤ i → out.length ≤ i →
    Ev (fun k => spec_Lines.l0 k s out (a : Int) (i : Int)) (out ++ (linesFrom ((s.data.toList.take i).drop a) (s.data.toList.drop i)).map toB) := by
  induction d with
  | zero =>
    intro i a out hi ha ho
    have hsz := size_eq s
    refine Ev.step (fun k => by rw [spec_Lines.l0]) ?_
    rw [show s.data.toList.drop i = [] from List.drop_of_length_le (by omega), linesFrom]
    refine ev_neg (by omega) (ev_ite (fun h => ev_pos (by omega) (ev_pos (by omega) (ev_pos (by omega) (ev_ret ?_)))) (fun h => ev_ret ?_))
    · rw [if_neg ?_, extract_eq, Int.toNat_natCast, show i = s.size by omega]
      · rfl
      · intro e
        have := congrArg List.length e
        rw [List.length_drop, List.length_take, List.length_nil] at this
        omega
    · rw [if_pos ?_]
      · simp
      · apply List.eq_nil_of_length_eq_zero
        rw [List.length_drop, List.length_take]
        omega
  | succ d ih =>
    intro i a out hi ha ho
    have hlt : i < s.size := by omega
    have hn : wrap64 ((i : Int) + 1) = ((i + 1 : Nat) : Int) := by rw [w64 (by omega) (by omega)]; omega
    refine Ev.step (fun k => by rw [spec_Lines.l0]) ?_
    rw [drop_cons hlt, linesFrom, bt_at hlt, hn]
    refine ev_pos (by omega) (ev_pos (by omega) (ev_ite (fun h => ?_) (fun h => ?_)))
    · have hb : s[i] = 10 := UInt8.toNat_inj.1 (by show s[i].toNat = 10; omega)
      refine ev_pos (by omega) (ev_pos (by omega) (ev_pos (by omega) (ev_pos (by omega) ?_)))
      have e := ih (i + 1) (i + 1) (out ++ [toB ((s.data.toList.take i).drop a)]) (by omega) (Nat.le_refl _) (by rw [List.length_append, List.length_singleton]; omega)
      rw [show (s.data.toList.take (i + 1)).drop (i + 1) = [] from List.drop_of_length_le (by rw [List.length_take]; omega), List.append_assoc, List.singleton_append] at e
      rw [if_pos hb, List.map_cons, extract_eq, Int.toNat_natCast, Int.toNat_natCast]
      exact e
    · have hb : ¬ s[i] = 10 := fun e => h (by rw [e]; rfl)
      have e := ih (i + 1) a out (by omega) (by omega) (by omega)
      rw [cut_snoc hlt ha] at e
      rw [if_neg hb]
      exact e
theorem spec_Lines_ev (l : List UInt8) (hl : l.length ≤ 1048576) : Ev (fun k => spec_Lines.f k (toB l)) ((linesOf l).map toB) := by
  have e := spec_Lines_l0 (toB l) (by rw [toB_size]; exact hl) (toB l).size 0 0 [] (Nat.zero_add _) (Nat.le_refl _) (Nat.le_refl _)
  exact e

/-! ### strings_Index -/
theorem strings_Index_eq (l : List UInt8) : strings_Index.f (toB l) ⟨#[10]⟩ = some (Lib.indexByte l 10) := rfl

/-! ### strings_genSplit -/
theorem wz0 (n : Nat) (h : n ≤ 2000000) : wrap64 ((n : Int) + 0) = (n : Int) := by rw [Int.add_zero, w64 (by omega) (by omega)]
theorem wz1 (n : Nat) (h : n ≤ 2000000) : wrap64 ((n : Int) + 1) = ((n + 1 : Nat) : Int) := by rw [w64 (by omega) (by omega)]; omega
theorem cut_l (p q : List UInt8) : (toB (p ++ 10 :: q)).extract 0 p.length = toB p := by rw [extract_eq, toB_data, List.drop_zero, List.take_left' rfl]
theorem cut_r (p q : List UInt8) : (toB (p ++ 10 :: q)).extract (p.length + 1) (toB (p ++ 10 :: q)).size = toB q := by
  rw [extract_eq, toB_data, toB_size, List.take_of_length_le (Nat.le_refl _), List.drop_append, List.drop_of_length_le (by omega), List.nil_append, show p.length + 1 - p.length = 1 by omega]
  rfl
theorem strings_genSplit_l0 (N : Nat) (hN : N ≤ 1048577) (d : Nat) : ∀ (l : List UInt8) (a : List ByteArray) (i : Nat), l.count 10 = d → i + d = N → a.length = N + 1 → l.length ≤ 1048576 →
    Ev (fun k => strings_genSplit.l0 k (toB l) ⟨#[10]⟩ 0 (N : Int) a (i : Int)) (a.take i ++ (splitFrom [] l).map toB) := by
  induction d with
  | zero =>
    intro l a i hc hi ha hl
    refine Ev.step (fun k => by rw [strings_genSplit.l0]) ?_
    rw [w64 (x := (i : Int) + 1) (by omega) (by omega), show ((i : Int) + 1) = ((i + 1 : Nat) : Int) by omega, Int.toNat_natCast, Int.toNat_natCast]
    refine ev_neg (by omega) (ev_pos (by omega) (ev_pos (by omega) (ev_pos (by omega) (ev_pos (by omega) (ev_ret ?_)))))
    rw [split_none l [] hc, List.take_succ_eq_append_getElem (by rw [List.length_set]; omega), List.take_set_of_le (Nat.le_refl _), List.getElem_set_self]
    rfl
  | succ d ih =>
    intro l a i hc hi ha hl
    obtain ⟨p, q, rfl, hp⟩ := split_at l (by omega)
    have hq : q.count 10 = d := by
      rw [List.count_append, hp, List.count_cons_self] at hc
      omega
    rw [List.length_append, List.length_cons] at hl
    have hsz : (toB (p ++ 10 :: q)).size = p.length + q.length + 1 := by rw [toB_size, List.length_append, List.length_cons]; omega
    have next := ih q (a.set i (toB p)) (i + 1) hq (by omega) (by rw [List.length_set]; exact ha) (by omega)
    rw [List.take_succ_eq_append_getElem (by rw [List.length_set]; omega), List.take_set_of_le (Nat.le_refl _), List.getElem_set_self, List.append_assoc, List.singleton_append] at next
    refine Ev.step (fun k => by rw [strings_genSplit.l0]) ?_
    refine ev_pos (by omega) (ev_bind (ev_eq (strings_Index_eq _)) ?_)
    rw [index_at p q hp, toB_size_one, split_some p q [] hp]
    rw [wz0 p.length (by omega), wz1 p.length (by omega), Int.toNat_natCast, Int.toNat_natCast, Int.toNat_natCast, cut_l, cut_r, wz1 i (by omega), List.nil_append, List.map_cons]
    generalize (toB (p ++ 10 :: q)).size = z at hsz ⊢
    generalize strings_genSplit.l0 = F at next ⊢
    refine ev_neg (by omega) (ev_pos (by omega) (ev_pos (by omega) (ev_pos (by omega) (ev_pos (by omega) (ev_pos (by omega) (ev_pos (by omega) ?_))))))
    exact next
theorem strings_genSplit_ev (l : List UInt8) (hl : l.length ≤ 1048576) : Ev (fun k => strings_genSplit.f k (toB l) ⟨#[10]⟩ 0 (-1)) ((splitFrom [] l).map toB) := by
  have hc := List.count_le_length (a := (10 : UInt8)) (l := l)
  have e1 : strings_Count.f (toB l) ⟨#[10]⟩ = some ((l.count 10 : Nat) : Int) := rfl
  refine ev_neg (by omega) (ev_neg (by rw [ba_toList]; simp) (ev_pos (by omega) (ev_bind (ev_eq e1) ?_)))
  have e2 : mn (wrap64 (((l.count 10 : Nat) : Int) + 1)) (wrap64 (((toB l).size : Int) + 1)) = ((l.count 10 + 1 : Nat) : Int) := by
    rw [toB_size, w64 (x := ((l.count 10 : Nat) : Int) + 1) (by omega) (by omega), w64 (by omega) (by omega)]
    unfold mn
    split <;> omega
  refine Ev.step (fun k => by rw [strings_genSplit.j0]) ?_
  rw [e2, Int.toNat_natCast, w64 (by omega) (by omega), show ((l.count 10 + 1 : Nat) : Int) - 1 = (l.count 10 : Int) by omega]
  refine ev_pos (by omega) (ev_pos (by omega) ?_)
  have e := strings_genSplit_l0 (l.count 10) (by omega) (l.count 10) l (List.replicate (l.count 10 + 1) ⟨#[]⟩) 0 rfl (Nat.zero_add _) (by rw [List.length_replicate]) hl
  exact e

/-! ### impl_Lines -/
theorem impl_Lines_ev (l : List UInt8) (hl : l.length ≤ 1048576) : Ev (fun k => impl_Lines.f k (toB l)) ((linesOf l).map toB) := by
  have hlen := splitFrom_length l []
  have hc := List.count_le_length (a := (10 : UInt8)) (l := l)
  have es : Ev (fun k => strings_Split.f k (toB l) ⟨#[10]⟩) ((splitFrom [] l).map toB) := ev_bind (strings_genSplit_ev l hl) (ev_ret rfl)
  refine ev_bind es ?_
  have e1 : wrap64 ((((splitFrom [] l).map toB).length : Int) - 1) = (l.count 10 : Int) := by rw [List.length_map, hlen, w64 (by omega) (by omega)]; omega
  have hne := splitFrom_ne l []
  have hlast : (splitFrom [] l).getLast? = some ((splitFrom [] l)[l.count 10]'(by omega)) := by
    rw [List.getLast?_eq_getElem?, show (splitFrom [] l).length - 1 = l.count 10 by omega]
    exact List.getElem?_eq_getElem _
  have hrd : rdOf ByteArray.empty ((splitFrom [] l).map toB) (l.count 10 : Int) = toB ((splitFrom [] l)[l.count 10]'(by omega)) := by
    have hz : l.count 10 < (splitFrom [] l).length := by omega
    simp [rdOf, List.getElem?_eq_getElem hz]
  rw [e1, hrd, linesOf, lines_split, trimLast, hlast]
  have hm : ((splitFrom [] l).map toB).length = l.count 10 + 1 := by rw [List.length_map]; exact hlen
  refine ev_pos (by omega) (ev_pos (by omega) (ev_ite (fun h => ev_pos (by omega) (ev_ret ?_)) (fun h => ev_ret ?_)))
  · rw [if_pos (by rw [(toB_empty_iff _).1 h]), Int.toNat_natCast, List.dropLast_eq_take, hlen, Nat.add_sub_cancel, List.map_take]
  · rw [if_neg (fun e => h ((toB_empty_iff _).2 (Option.some.inj e)))]

/-! ### laws_eqStringS -/
theorem laws_eqStringS_l0 (l : List ByteArray) (hl : l.length ≤ 70368744177664) (d : Nat) : ∀ (i : Nat), i + d = l.length → Ev (fun k => laws_eqStringS.l0 k l l (i : Int)) true := by
  induction d with
  | zero =>
    intro i hi
    refine Ev.step (fun k => by rw [laws_eqStringS.l0]) ?_
    exact ev_neg (by omega) (ev_ret rfl)
  | succ d ih =>
    intro i hi
    refine Ev.step (fun k => by rw [laws_eqStringS.l0]) ?_
    refine ev_pos (by omega) (ev_pos (by omega) (ev_pos (by omega) (ev_pos rfl ?_)))
    rw [w64 (by omega) (by omega), show ((i : Int) + 1) = ((i + 1 : Nat) : Int) by omega]
    exact ih (i + 1) (by omega)
theorem laws_eqStringS_ev (l : List ByteArray) (hl : l.length ≤ 70368744177664) : Ev (fun k => laws_eqStringS.f k l l) true :=
  ev_pos rfl (laws_eqStringS_l0 l hl l.length 0 (by omega))

/-! ### laws_markText -/
theorem strOf_size (l : List Int) : (strOfNums l).size = l.length := by
  show ((l.map fun n => UInt8.ofNat n.toNat).toArray).size = l.length
  simp
theorem laws_markText_l0 (n : Nat) : ∀ (x : Int) (t : ByteArray), 0 ≤ x → x < 10 ^ n → x ≤ 9000000000000000000 → t.size + n ≤ 1000000 → ∃ r, Ev (fun k => laws_markText.l0 k x t) r := by
  induction n with
  | zero =>
    intro x t h0 h1 h2 h3
    refine ⟨⟨#[109]⟩ ++ t, Ev.step (fun k => by rw [laws_markText.l0]) ?_⟩
    exact ev_neg (by simp at h1; omega) (ev_pos (by omega) (ev_ret rfl))
  | succ n ih =>
    intro x t h0 h1 h2 h3
    by_cases hx : x > 0
    · have hd : Int.tdiv x 10 = x / 10 := Int.tdiv_eq_ediv_of_nonneg h0
      obtain ⟨r, hr⟩ := ih (x / 10) (strOfNums [(wrap64 (48 + (Int.tmod x 10))) % 256] ++ t) (by omega) (by rw [Int.pow_succ] at h1; omega) (by omega) (by rw [ByteArray.size_append, strOf_size]; simp only [List.length_cons, List.length_nil]; omega)
      refine ⟨r, Ev.step (fun k => by rw [laws_markText.l0]) ?_⟩
      refine ev_pos hx (ev_some (ev_pos ?_ ?_))
      · rw [strOf_size]; simp only [List.length_cons, List.length_nil]; omega
      · rw [hd, w64 (x := x / 10) (by omega) (by omega)]; exact hr
    · refine ⟨⟨#[109]⟩ ++ t, Ev.step (fun k => by rw [laws_markText.l0]) ?_⟩
      exact ev_neg hx (ev_pos (by omega) (ev_ret rfl))
theorem laws_markText_some (m : Int) (h1 : 1 ≤ m) (h2 : m ≤ 9000000000000000000) : ∃ r, Ev (fun k => laws_markText.f k m) r := by
  obtain ⟨r, hr⟩ := laws_markText_l0 19 m ⟨#[]⟩ (by omega) (by omega) h2 (by decide)
  exact ⟨r, ev_neg (by omega) hr⟩
open Classical in
/-- What markText tells. -/
noncomputable def mtext (m : Int) : ByteArray := if h : ∃ r, Ev (fun k => laws_markText.f k m) r then Classical.choose h else ⟨#[]⟩
theorem laws_markText_ev (m : Int) (h1 : 1 ≤ m) (h2 : m ≤ 9000000000000000000) : Ev (fun k => laws_markText.f k m) (mtext m) := by
  have h := laws_markText_some m h1 h2
  unfold mtext
  rw [dif_pos h]
  exact Classical.choose_spec h
noncomputable def marksS (m : Int) : Nat → List ByteArray
  | 0 => []
  | d + 1 => mtext m :: marksS (m + 1) d
theorem marksS_length (d : Nat) : ∀ m, (marksS m d).length = d := by
  induction d with
  | zero => intro m; rfl
  | succ d ih => intro m; simp [marksS, ih]

/-! ### laws_markStringS -/
theorem laws_markStringS_l0 (n : Nat) (hn : n ≤ 70368744177664) (d : Nat) : ∀ (ys : List ByteArray) (i : Nat) (m : Int), 1 ≤ m → m + d ≤ 9000000000000000000 → ys.length = n → i + d = n →
    Ev (fun k => laws_markStringS.l0 k ys m (i : Int)) (m + d, ys.take i ++ marksS m d) := by
  induction d with
  | zero =>
    intro ys i m h1 h2 hy hi
    refine Ev.step (fun k => by rw [laws_markStringS.l0]) ?_
    refine ev_neg (by omega) (ev_ret ?_)
    rw [List.take_of_length_le (by omega)]; simp [marksS]
  | succ d ih =>
    intro ys i m h1 h2 hy hi
    refine Ev.step (fun k => by rw [laws_markStringS.l0]) ?_
    refine ev_pos (by omega) (ev_bind (laws_markText_ev m h1 (by omega)) (ev_pos (by omega) ?_))
    rw [w64 (by omega) (by omega), w64 (by omega) (by omega), show ((i : Int) + 1) = ((i + 1 : Nat) : Int) by omega]
    refine ev_to (ih _ (i + 1) (m + 1) (by omega) (by omega) (by simp [hy]) (by omega)) ?_
    simp only [Int.toNat_natCast]
    rw [List.take_succ_eq_append_getElem (by simp; omega), List.take_set_of_le (by omega), List.append_assoc]
    simp [marksS]; omega
theorem laws_markStringS_ev (l : List ByteArray) (hl : l.length ≤ 70368744177664) (m : Int) (h1 : 1 ≤ m) (h2 : m ≤ 1000000000000000000) : Ev (fun k => laws_markStringS.f k l m) (m + l.length, marksS m l.length) :=
  laws_markStringS_l0 l.length hl l.length l 0 m h1 (by omega) rfl (by omega)

/-! ### laws_heldStringS -/
theorem laws_heldStringS_l0 (n : Nat) (hn : n ≤ 70368744177664) (d : Nat) : ∀ (ys : List ByteArray) (i : Nat) (m : Int), 1 ≤ m → m + d ≤ 9000000000000000000 → ys.length = n → i + d = n → ys.drop i = marksS m d →
    Ev (fun k => laws_heldStringS.l0 k ys m (i : Int)) (m + d) := by
  induction d with
  | zero =>
    intro ys i m h1 h2 hy hi ht
    refine Ev.step (fun k => by rw [laws_heldStringS.l0]) ?_
    exact ev_neg (by omega) (ev_ret (by simp))
  | succ d ih =>
    intro ys i m h1 h2 hy hi ht
    rw [List.drop_eq_getElem_cons (by omega : i < ys.length), marksS] at ht
    injection ht with hx ht
    refine Ev.step (fun k => by rw [laws_heldStringS.l0]) ?_
    refine ev_pos (by omega) (ev_pos (by omega) (ev_bind (laws_markText_ev m h1 (by omega)) (ev_pos ?_ ?_)))
    · rw [← hx]; simp [rdOf, List.getElem?_eq_getElem (show i < ys.length by omega)]
    rw [w64 (by omega) (by omega), w64 (by omega) (by omega), show ((i : Int) + 1) = ((i + 1 : Nat) : Int) by omega]
    exact ev_to (ih _ (i + 1) (m + 1) (by omega) (by omega) hy (by omega) ht) (by omega)
theorem laws_heldStringS_ev (n : Nat) (hl : n ≤ 70368744177664) (m : Int) (h1 : 1 ≤ m) (h2 : m ≤ 1000000000000000000) : Ev (fun k => laws_heldStringS.f k (marksS m n) m) (m + n) :=
  laws_heldStringS_l0 n hl n _ 0 m h1 (by omega) (marksS_length n m) (by omega) rfl

/-! ### FnExactLines -/
theorem FnExactLines : laws_FnExactLines.Pure := by
  intro s hs
  refine Ev.rounds (r := true) ?_
  refine ev_ite (fun _ => ev_ret rfl) (fun h => ?_)
  obtain ⟨l, rfl⟩ : ∃ l, s = toB l := ⟨s.data.toList, (toB_self s).symm⟩
  rw [toB_size] at h
  have hl := linesOf_length l
  have e1 := spec_Lines_ev l (by omega)
  have e2 := impl_Lines_ev l (by omega)
  have hb : ((linesOf l).map toB).length ≤ 70368744177664 := by rw [List.length_map]; omega
  generalize (linesOf l).map toB = W at e1 e2 hb
  refine ev_bind e1 (ev_bind e2 (ev_bind (laws_eqStringS_ev _ hb) (ev_pos rfl ?_)))
  refine ev_bind (laws_markStringS_ev _ hb 1 (by omega) (by omega)) (ev_bind (laws_heldStringS_ev _ hb 1 (by omega) (by omega)) (ev_neg (by omega) (ev_pos rfl ?_)))
  refine ev_bind e2 (ev_bind (laws_eqStringS_ev _ hb) (ev_pos rfl ?_))
  exact ev_bind (laws_heldStringS_ev _ hb 1 (by omega) (by omega)) (ev_neg (by omega) (ev_pos rfl (ev_ret rfl)))

end Go.Proofs.YtamdgigcngeanaaDoor.Pure
