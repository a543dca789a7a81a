/-
The law FnExactWords holds of the printed plain functions, for all arguments that the printed bounds allow.
-/
import Derived.Test.YtbgnhdnbgobeeaaPFnExactWordsx1
import Derived.Test.YtbgnhdnbgobeeaaPFnExactWordsx2
import Derived.Test.YtbgnhdnbgobeeaaTools
import Derived.Test.YtbgnhdnbgobeeaaSpots
namespace Go.Proofs.Ytbgnhdnbgobeeaa.Pure
open Go.RowKit Go.Proofs.Ytbgnhdnbgobeeaa.PFnExactWords Go.Proofs.YtbgnhdnbgobeeaaW.PrintWords Go.Proofs.YtbgnhdnbgobeeaaW.PrintLast Go.Proofs.YtbgnhdnbgobeeaaW.PrintMore Go.Proofs.Ytbgnhdnbgobeeaa.Tools Go.Proofs.Ytbgnhdnbgobeeaa.Plain
set_option linter.unusedVariables false

/-! ### spec_l01Blank -/
theorem spec_l01Blank_eq (b : UInt8) : spec_l01Blank.f (b.toNat : Int) = some (blankB b) := by
  unfold spec_l01Blank.f
  have hb := blank_iff b
  by_cases h1 : (b.toNat : Int) = 32
  · rw [if_pos h1, hb.2 (.inl h1)]
  rw [if_neg h1]
  by_cases h2 : (b.toNat : Int) = 9
  · rw [if_pos h2, hb.2 (.inr (.inl h2))]
  rw [if_neg h2]
  by_cases h3 : (b.toNat : Int) = 10
  · rw [hb.2 (.inr (.inr h3)), h3]; rfl
  · have : blankB b = false := by
      cases hc : blankB b with
      | false => rfl
      | true => have := hb.1 hc; omega
    rw [this]; simp [h3]

/-! ### spec_Words -/
theorem spec_Words_loops (s : ByteArray) (hs : s.size ≤ 1048576) (d : Nat) : ∀ i : Nat, i + d = s.size →
    (∀ ws : List ByteArray, ws.length + d ≤ 1048577 → Ev (fun k => spec_Words.l0 k s ws (i : Int)) (ws ++ (spotsC (s.data.toList.drop i) none i).map (fun c => toB c.1))) ∧
    (∀ (ws : List ByteArray) (a : Nat), a ≤ i → ws.length + d ≤ 1048576 → Ev (fun k => spec_Words.l1 k s ws (a : Int) (i : Int)) (ws ++ (spotsC (s.data.toList.drop i) (some ((s.data.toList.take i).drop a, a)) i).map (fun c => toB c.1))) := by
  induction d with
  | zero =>
    intro i hi
    have hd : s.data.toList.drop i = [] := List.drop_of_length_le (by rw [← size_eq]; omega)
    have h0 : ∀ ws : List ByteArray, Ev (fun k => spec_Words.l0 k s ws (i : Int)) (ws ++ (spotsC (s.data.toList.drop i) none i).map (fun c => toB c.1)) := by
      intro ws
      refine Ev.step (fun k => by rw [spec_Words.l0]) ?_
      refine ev_neg (by omega) (ev_ret ?_)
      rw [hd]; simp [spotsC]
    refine ⟨fun ws _ => h0 ws, fun ws a ha hw => ?_⟩
    refine Ev.step (fun k => by rw [spec_Words.l1]) ?_
    refine ev_neg (by omega) (ev_pos (by omega) (ev_pos (by omega) (ev_pos (by omega) (ev_pos (by omega) ?_))))
    refine ev_to (h0 _) ?_
    rw [hd]; simp [spotsC, extract_eq]
  | succ d ih =>
    intro i hi
    have hlt : i < s.size := by omega
    have hn : wrap64 ((i : Int) + 1) = ((i + 1 : Nat) : Int) := by rw [w64 (by omega) (by omega)]; omega
    obtain ⟨ih0, ih1⟩ := ih (i + 1) (by omega)
    cases hb : blankB s[i] with
    | true =>
      have h0 : ∀ ws : List ByteArray, ws.length + (d + 1) ≤ 1048577 → Ev (fun k => spec_Words.l0 k s ws (i : Int)) (ws ++ (spotsC (s.data.toList.drop i) none i).map (fun c => toB c.1)) := by
        intro ws hw
        refine Ev.step (fun k => by rw [spec_Words.l0]) ?_
        refine ev_pos (by omega) (ev_pos (by omega) (ev_bind (ev_eq (by rw [bt_at hlt, spec_l01Blank_eq, hb])) (ev_pos rfl ?_)))
        rw [hn]
        refine ev_to (ih0 ws (by omega)) ?_
        rw [drop_cons hlt]; simp [spotsC, hb]
      refine ⟨h0, fun ws a ha hw => ?_⟩
      refine Ev.step (fun k => by rw [spec_Words.l1]) ?_
      refine ev_pos (by omega) (ev_pos (by omega) (ev_bind (ev_eq (by rw [bt_at hlt, spec_l01Blank_eq, hb])) (ev_pos rfl (ev_pos (by omega) (ev_pos (by omega) (ev_pos (by omega) (ev_pos (by omega) ?_)))))))
      refine ev_to (h0 _ (by simp; omega)) ?_
      rw [drop_cons hlt]; simp [spotsC, hb, extract_eq]
    | false =>
      have h1 : ∀ (ws : List ByteArray) (a : Nat), a ≤ i → ws.length + (d + 1) ≤ 1048577 → Ev (fun k => spec_Words.l1 k s ws (a : Int) (i : Int)) (ws ++ (spotsC (s.data.toList.drop i) (some ((s.data.toList.take i).drop a, a)) i).map (fun c => toB c.1)) := by
        intro ws a ha hw
        refine Ev.step (fun k => by rw [spec_Words.l1]) ?_
        refine ev_pos (by omega) (ev_pos (by omega) (ev_bind (ev_eq (by rw [bt_at hlt, spec_l01Blank_eq, hb])) (ev_neg (by simp) ?_)))
        rw [hn]
        refine ev_to (ih1 ws a (by omega) (by omega)) ?_
        rw [drop_cons hlt, cut_snoc hlt ha]; simp [spotsC, hb]
      refine ⟨fun ws hw => ?_, fun ws a ha hw => h1 ws a ha (by omega)⟩
      refine Ev.step (fun k => by rw [spec_Words.l0]) ?_
      refine ev_pos (by omega) (ev_pos (by omega) (ev_bind (ev_eq (by rw [bt_at hlt, spec_l01Blank_eq, hb])) (ev_neg (by simp) ?_)))
      refine ev_to (h1 ws i (by omega) (by omega)) ?_
      rw [drop_cons hlt]; simp [spotsC, hb]
theorem spec_Words_ev (s : ByteArray) (hs : s.size ≤ 1048576) : Ev (fun k => spec_Words.f k s) ((spotsOf s.data.toList).map (fun c => toB c.1)) :=
  ev_to (((spec_Words_loops s hs s.size) 0 (by omega)).1 [] (by simp; omega)) (by simp [spotsOf])

/-! ### impl_isSpace -/
theorem impl_isSpace_eq (b : UInt8) : impl_isSpace.f (b.toNat : Int) = some (blankB b) := by
  unfold impl_isSpace.f
  have hb := blank_iff b
  by_cases h1 : (b.toNat : Int) = 32
  · rw [if_pos h1, hb.2 (.inl h1)]
  rw [if_neg h1]
  by_cases h2 : (b.toNat : Int) = 10
  · rw [if_pos h2, hb.2 (.inr (.inr h2))]
  rw [if_neg h2]
  by_cases h3 : (b.toNat : Int) = 9
  · rw [hb.2 (.inr (.inl h3)), h3]; rfl
  · have : blankB b = false := by
      cases hc : blankB b with
      | false => rfl
      | true => have := hb.1 hc; omega
    rw [this]; simp [h3]

/-! ### impl_spots -/
theorem impl_spots_loops (s : ByteArray) (hs : s.size ≤ 1048576) (d : Nat) : ∀ i : Nat, i + d = s.size →
    (∀ ws : List S79, ws.length + d ≤ 1048577 → Ev (fun k => impl_spots.l0 k s ws (i : Int)) (ws ++ (spotsC (s.data.toList.drop i) none i).map (fun c => (⟨toB c.1, (c.2 : Int)⟩ : S79)))) ∧
    (∀ (ws : List S79) (a : Nat), a ≤ i → ws.length + d ≤ 1048576 → Ev (fun k => impl_spots.l1 k s ws (i : Int) (a : Int)) (ws ++ (spotsC (s.data.toList.drop i) (some ((s.data.toList.take i).drop a, a)) i).map (fun c => (⟨toB c.1, (c.2 : Int)⟩ : S79)))) := by
  induction d with
  | zero =>
    intro i hi
    have hd : s.data.toList.drop i = [] := List.drop_of_length_le (by rw [← size_eq]; omega)
    have h0 : ∀ ws : List S79, Ev (fun k => impl_spots.l0 k s ws (i : Int)) (ws ++ (spotsC (s.data.toList.drop i) none i).map (fun c => (⟨toB c.1, (c.2 : Int)⟩ : S79))) := by
      intro ws
      refine Ev.step (fun k => by rw [impl_spots.l0]) ?_
      refine ev_neg (by omega) (ev_ret ?_)
      rw [hd]; simp [spotsC]
    refine ⟨fun ws _ => h0 ws, fun ws a ha hw => ?_⟩
    refine Ev.step (fun k => by rw [impl_spots.l1]) ?_
    refine ev_neg (by omega) (ev_pos (by omega) (ev_pos (by omega) (ev_pos (by omega) (ev_pos (by omega) ?_))))
    refine ev_to (h0 _) ?_
    rw [hd]; simp [spotsC, extract_eq]
  | succ d ih =>
    intro i hi
    have hlt : i < s.size := by omega
    have hn : wrap64 ((i : Int) + 1) = ((i + 1 : Nat) : Int) := by rw [w64 (by omega) (by omega)]; omega
    obtain ⟨ih0, ih1⟩ := ih (i + 1) (by omega)
    cases hb : blankB s[i] with
    | true =>
      have h0 : ∀ ws : List S79, ws.length + (d + 1) ≤ 1048577 → Ev (fun k => impl_spots.l0 k s ws (i : Int)) (ws ++ (spotsC (s.data.toList.drop i) none i).map (fun c => (⟨toB c.1, (c.2 : Int)⟩ : S79))) := by
        intro ws hw
        refine Ev.step (fun k => by rw [impl_spots.l0]) ?_
        refine ev_pos (by omega) (ev_pos (by omega) (ev_bind (ev_eq (by rw [bt_at hlt, impl_isSpace_eq, hb])) (ev_pos rfl ?_)))
        rw [hn]
        refine ev_to (ih0 ws (by omega)) ?_
        rw [drop_cons hlt]; simp [spotsC, hb]
      refine ⟨h0, fun ws a ha hw => ?_⟩
      refine Ev.step (fun k => by rw [impl_spots.l1]) ?_
      refine ev_pos (by omega) (ev_pos (by omega) (ev_bind (ev_eq (by rw [bt_at hlt, impl_isSpace_eq, hb])) (ev_pos rfl (ev_pos (by omega) (ev_pos (by omega) (ev_pos (by omega) (ev_pos (by omega) ?_)))))))
      refine ev_to (h0 _ (by simp; omega)) ?_
      rw [drop_cons hlt]; simp [spotsC, hb, extract_eq]
    | false =>
      have h1 : ∀ (ws : List S79) (a : Nat), a ≤ i → ws.length + (d + 1) ≤ 1048577 → Ev (fun k => impl_spots.l1 k s ws (i : Int) (a : Int)) (ws ++ (spotsC (s.data.toList.drop i) (some ((s.data.toList.take i).drop a, a)) i).map (fun c => (⟨toB c.1, (c.2 : Int)⟩ : S79))) := by
        intro ws a ha hw
        refine Ev.step (fun k => by rw [impl_spots.l1]) ?_
        refine ev_pos (by omega) (ev_pos (by omega) (ev_bind (ev_eq (by rw [bt_at hlt, impl_isSpace_eq, hb])) (ev_neg (by simp) ?_)))
        rw [hn]
        refine ev_to (ih1 ws a (by omega) (by omega)) ?_
        rw [drop_cons hlt, cut_snoc hlt ha]; simp [spotsC, hb]
      refine ⟨fun ws hw => ?_, fun ws a ha hw => h1 ws a ha (by omega)⟩
      refine Ev.step (fun k => by rw [impl_spots.l0]) ?_
      refine ev_pos (by omega) (ev_pos (by omega) (ev_bind (ev_eq (by rw [bt_at hlt, impl_isSpace_eq, hb])) (ev_neg (by simp) ?_)))
      refine ev_to (h1 ws i (by omega) (by omega)) ?_
      rw [drop_cons hlt]; simp [spotsC, hb]
theorem impl_spots_ev (s : ByteArray) (hs : s.size ≤ 1048576) : Ev (fun k => impl_spots.f k s) ((spotsOf s.data.toList).map (fun c => (⟨toB c.1, (c.2 : Int)⟩ : S79))) :=
  ev_to (((impl_spots_loops s hs s.size) 0 (by omega)).1 [] (by simp; omega)) (by simp [spotsOf])

/-! ### impl_Words -/
theorem impl_Words_l0 (xs : List S79) (hx : xs.length ≤ 1048577) (d : Nat) : ∀ (ws : List ByteArray) (i : Nat), i + d = xs.length → ws.length = i → Ev (fun k => impl_Words.l0 k ws xs (xs.length : Int) (i : Int)) (ws ++ (xs.drop i).map (·.f0)) := by
  induction d with
  | zero =>
    intro ws i hi hw
    refine Ev.step (fun k => by rw [impl_Words.l0]) ?_
    refine ev_neg (by omega) (ev_ret ?_)
    rw [List.drop_of_length_le (by omega)]; simp
  | succ d ih =>
    intro ws i hi hw
    refine Ev.step (fun k => by rw [impl_Words.l0]) ?_
    refine ev_pos (by omega) (ev_pos (by omega) (ev_pos (by omega) (ev_pos (by omega) ?_)))
    rw [w64 (by omega) (by omega), show ((i : Int) + 1) = ((i + 1 : Nat) : Int) by omega]
    refine ev_to (ih _ (i + 1) (by omega) (by simp [hw])) ?_
    have e : rd_T79 xs (i : Int) = xs[i] := by simp [rd_T79, List.getElem?_eq_getElem (show i < xs.length by omega)]
    rw [e, List.drop_eq_getElem_cons (by omega : i < xs.length), List.map_cons, List.append_assoc]
    rfl
theorem impl_Words_ev (s : ByteArray) (hs : s.size ≤ 1048576) : Ev (fun k => impl_Words.f k s) ((spotsOf s.data.toList).map (fun c => toB c.1)) := by
  refine ev_bind (impl_spots_ev s hs) ?_
  have hl := spotsOf_length s.data.toList
  rw [← size_eq] at hl
  refine ev_to (impl_Words_l0 _ (by rw [List.length_map]; omega) _ [] 0 (Nat.zero_add _) rfl) ?_
  simp

/-! ### laws_eqStringS -/
theorem laws_eqStringS_l0 (l : List ByteArray) (hl : l.length ≤ 70368744177664) (d : Nat) : ∀ (i : Nat), i + d = l.length → Ev (fun k => laws_eqStringS.l0 k l l (i : Int)) true := by
  induction d with
  | zero =>
    intro i hi
    refine Ev.step (fun k => by rw [laws_eqStringS.l0]) ?_
    exact ev_neg (by omega) (ev_ret rfl)
  | succ d ih =>
    intro i hi
    refine Ev.step (fun k => by rw [laws_eqStringS.l0]) ?_
    refine ev_pos (by omega) (ev_pos (by omega) (ev_pos (by omega) (ev_pos rfl ?_)))
    rw [w64 (by omega) (by omega), show ((i : Int) + 1) = ((i + 1 : Nat) : Int) by omega]
    exact ih (i + 1) (by omega)
theorem laws_eqStringS_ev (l : List ByteArray) (hl : l.length ≤ 70368744177664) : Ev (fun k => laws_eqStringS.f k l l) true :=
  ev_pos rfl (laws_eqStringS_l0 l hl l.length 0 (by omega))

/-! ### laws_markText -/
theorem strOf_size (l : List Int) : (strOfNums l).size = l.length := by
  show ((l.map fun n => UInt8.ofNat n.toNat).toArray).size = l.length
  simp
theorem laws_markText_l0 (n : Nat) : ∀ (x : Int) (t : ByteArray), 0 ≤ x → x < 10 ^ n → x ≤ 9000000000000000000 → t.size + n ≤ 1000000 → ∃ r, Ev (fun k => laws_markText.l0 k x t) r := by
  induction n with
  | zero =>
    intro x t h0 h1 h2 h3
    refine ⟨⟨#[109]⟩ ++ t, Ev.step (fun k => by rw [laws_markText.l0]) ?_⟩
    exact ev_neg (by simp at h1; omega) (ev_pos (by omega) (ev_ret rfl))
  | succ n ih =>
    intro x t h0 h1 h2 h3
    by_cases hx : x > 0
    · have hd : Int.tdiv x 10 = x / 10 := Int.tdiv_eq_ediv_of_nonneg h0
      obtain ⟨r, hr⟩ := ih (x / 10) (strOfNums [(wrap64 (48 + (Int.tmod x 10))) % 256] ++ t) (by omega) (by rw [Int.pow_succ] at h1; omega) (by omega) (by rw [ByteArray.size_append, strOf_size]; simp only [List.length_cons, List.length_nil]; omega)
      refine ⟨r, Ev.step (fun k => by rw [laws_markText.l0]) ?_⟩
      refine ev_pos hx (ev_some (ev_pos ?_ ?_))
      · rw [strOf_size]; simp only [List.length_cons, List.length_nil]; omega
      · rw [hd, w64 (x := x / 10) (by omega) (by omega)]; exact hr
    · refine ⟨⟨#[109]⟩ ++ t, Ev.step (fun k => by rw [laws_markText.l0]) ?_⟩
      exact ev_neg hx (ev_pos (by omega) (ev_ret rfl))
theorem laws_markText_some (m : Int) (h1 : 1 ≤ m) (h2 : m ≤ 9000000000000000000) : ∃ r, Ev (fun k => laws_markText.f k m) r := by
  obtain ⟨r, hr⟩ := laws_markText_l0 19 m ⟨#[]⟩ (by omega) (by omega) h2 (by decide)
  exact ⟨r, ev_neg (by omega) hr⟩
open Classical in
/-- What markText tells. -/
noncomputable def mtext (m : Int) : ByteArray := if h : ∃ r, Ev (fun k => laws_markText.f k m) r then Classical.choose h else ⟨#[]⟩
theorem laws_markText_ev (m : Int) (h1 : 1 ≤ m) (h2 : m ≤ 9000000000000000000) : Ev (fun k => laws_markText.f k m) (mtext m) := by
  have h := laws_markText_some m h1 h2
  unfold mtext
  rw [dif_pos h]
  exact Classical.choose_spec h
noncomputable def marksS (m : Int) : Nat → List ByteArray
  | 0 => []
  | d + 1 => mtext m :: marksS (m + 1) d
theorem marksS_length (d : Nat) : ∀ m, (marksS m d).length = d := by
  induction d with
  | zero => intro m; rfl
  | succ d ih => intro m; simp [marksS, ih]

/-! ### laws_markStringS -/
theorem laws_markStringS_l0 (n : Nat) (hn : n ≤ 70368744177664) (d : Nat) : ∀ (ys : List ByteArray) (i : Nat) (m : Int), 1 ≤ m → m + d ≤ 9000000000000000000 → ys.length = n → i + d = n →
    Ev (fun k => laws_markStringS.l0 k ys m (i : Int)) (m + d, ys.take i ++ marksS m d) := by
  induction d with
  | zero =>
    intro ys i m h1 h2 hy hi
    refine Ev.step (fun k => by rw [laws_markStringS.l0]) ?_
    refine ev_neg (by omega) (ev_ret ?_)
    rw [List.take_of_length_le (by omega)]; simp [marksS]
  | succ d ih =>
    intro ys i m h1 h2 hy hi
    refine Ev.step (fun k => by rw [laws_markStringS.l0]) ?_
    refine ev_pos (by omega) (ev_bind (laws_markText_ev m h1 (by omega)) (ev_pos (by omega) ?_))
    rw [w64 (by omega) (by omega), w64 (by omega) (by omega), show ((i : Int) + 1) = ((i + 1 : Nat) : Int) by omega]
    refine ev_to (ih _ (i + 1) (m + 1) (by omega) (by omega) (by simp [hy]) (by omega)) ?_
    simp only [Int.toNat_natCast]
    rw [List.take_succ_eq_append_getElem (by simp; omega), List.take_set_of_le (by omega), List.append_assoc]
    simp [marksS]; omega
theorem laws_markStringS_ev (l : List ByteArray) (hl : l.length ≤ 70368744177664) (m : Int) (h1 : 1 ≤ m) (h2 : m ≤ 1000000000000000000) : Ev (fun k => laws_markStringS.f k l m) (m + l.length, marksS m l.length) :=
  laws_markStringS_l0 l.length hl l.length l 0 m h1 (by omega) rfl (by omega)

/-! ### laws_heldStringS -/
theorem laws_heldStringS_l0 (n : Nat) (hn : n ≤ 70368744177664) (d : Nat) : ∀ (ys : List ByteArray) (i : Nat) (m : Int), 1 ≤ m → m + d ≤ 9000000000000000000 → ys.length = n → i + d = n → ys.drop i = marksS m d →
    Ev (fun k => laws_heldStringS.l0 k ys m (i : Int)) (m + d) := by
  induction d with
  | zero =>
    intro ys i m h1 h2 hy hi ht
    refine Ev.step (fun k => by rw [laws_heldStringS.l0]) ?_
    exact ev_neg (by omega) (ev_ret (by simp))
  | succ d ih =>
    intro ys i m h1 h2 hy hi ht
    rw [List.drop_eq_getElem_cons (by omega : i < ys.length), marksS] at ht
    injection ht with hx ht
    refine Ev.step (fun k => by rw [laws_heldStringS.l0]) ?_
    refine ev_pos (by omega) (ev_pos (by omega) (ev_bind (laws_markText_ev m h1 (by omega)) (ev_pos ?_ ?_)))
    · rw [← hx]; simp [rdOf, List.getElem?_eq_getElem (show i < ys.length by omega)]
    rw [w64 (by omega) (by omega), w64 (by omega) (by omega), show ((i : Int) + 1) = ((i + 1 : Nat) : Int) by omega]
    exact ev_to (ih _ (i + 1) (m + 1) (by omega) (by omega) hy (by omega) ht) (by omega)
theorem laws_heldStringS_ev (n : Nat) (hl : n ≤ 70368744177664) (m : Int) (h1 : 1 ≤ m) (h2 : m ≤ 1000000000000000000) : Ev (fun k => laws_heldStringS.f k (marksS m n) m) (m + n) :=
  laws_heldStringS_l0 n hl n _ 0 m h1 (by omega) (marksS_length n m) (by omega) rfl

/-! ### FnExactWords -/
theorem FnExactWords : laws_FnExactWords.Pure := by
  intro s hs
  refine Ev.rounds (r := true) ?_
  refine ev_ite (fun _ => ev_ret rfl) (fun h => ?_)
  have hz : s.size ≤ 1048576 := by omega
  have hl := spotsOf_length s.data.toList
  rw [← size_eq] at hl
  generalize hW : (spotsOf s.data.toList).map (fun c => toB c.1) = W
  have hb : W.length ≤ 70368744177664 := by rw [← hW, List.length_map]; omega
  refine ev_bind (hW ▸ spec_Words_ev s hz) (ev_bind (hW ▸ impl_Words_ev s hz) (ev_bind (laws_eqStringS_ev _ hb) (ev_pos rfl ?_)))
  refine ev_bind (laws_markStringS_ev _ hb 1 (by omega) (by omega)) (ev_bind (laws_heldStringS_ev _ hb 1 (by omega) (by omega)) (ev_neg (by omega) (ev_pos rfl ?_)))
  refine ev_bind (hW ▸ impl_Words_ev s hz) (ev_bind (laws_eqStringS_ev _ hb) (ev_pos rfl ?_))
  exact ev_bind (laws_heldStringS_ev _ hb 1 (by omega) (by omega)) (ev_neg (by omega) (ev_pos rfl (ev_ret rfl)))

end Go.Proofs.Ytbgnhdnbgobeeaa.Pure
