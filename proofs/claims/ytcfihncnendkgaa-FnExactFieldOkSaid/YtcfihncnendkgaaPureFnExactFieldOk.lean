/-
The law FnExactFieldOk holds of the printed plain functions, for all arguments that the printed bounds allow.
-/
import Derived.Test.YtcfihncnendkgaaQFnExactFieldOkx1
import Derived.Test.YtcfihncnendkgaaQFnExactFieldOkx2
import Derived.Test.YtcfihncnendkgaaQFnExactFieldOkx3
import Derived.Test.YtcfihncnendkgaaTools
import Derived.Test.YtcfihncnendkgaaLetters
import Derived.Test.YtcfihncnendkgaaHeads
import Derived.Test.YtcfihncnendkgaaSpots
import Derived.Test.YtcfihncnendkgaaNames
namespace Go.Proofs.Ytcfihncnendkgaa.Pure
open Go.RowKit Go.Proofs.Ytcfihncnendkgaa.QFnExactFieldOk Go.Proofs.YtcfihncnendkgaaW.PrintWords Go.Proofs.YtcfihncnendkgaaW.PrintLast Go.Proofs.YtcfihncnendkgaaW.PrintMore Go.Proofs.Ytcfihncnendkgaa.Tools Go.Proofs.Ytcfihncnendkgaa.Plain
set_option linter.unusedVariables false

/-! ### spec_l01In -/
theorem spec_l01In_eq (a b c : Int) : spec_l01In.f a b c = some (decide (b ≤ a ∧ a ≤ c)) := by
  unfold spec_l01In.f
  by_cases h : b ≤ a
  · rw [if_pos h]; simp [h]
  · rw [if_neg h]; simp [h]

/-! ### spec_LetterOf -/
theorem spec_LetterOf_all : ∀ b : UInt8, spec_LetterOf.f 49 (b.toNat : Int) = some (lo b) := all_bytes (by decide +kernel)
theorem spec_LetterOf_ev (b : UInt8) : Ev (fun k => spec_LetterOf.f k (b.toNat : Int)) (lo b) := Ev.of (spec_LetterOf.mono _) (spec_LetterOf_all b)

/-! ### spec_NameOk -/
theorem spec_NameOk_l0 (s : ByteArray) (hs : s.size ≤ 24) (d : Nat) : ∀ i : Nat, i + d = s.size → Ev (fun k => spec_NameOk.l0 k s (i : Int)) ((s.data.toList.drop i).all (fun b => decide (1 ≤ lo b))) := by
  induction d with
  | zero =>
    intro i hi
    refine Ev.step (fun k => by rw [spec_NameOk.l0]) ?_
    refine ev_neg (by omega) (ev_ret ?_)
    rw [List.drop_of_length_le (by rw [← size_eq]; omega)]; rfl
  | succ d ih =>
    intro i hi
    have hlt : i < s.size := by omega
    refine Ev.step (fun k => by rw [spec_NameOk.l0]) ?_
    refine ev_pos (by omega) (ev_pos (by omega) (ev_bind (by rw [bt_at hlt]; exact spec_LetterOf_ev _) ?_))
    rw [drop_cons hlt, List.all_cons]
    by_cases h : 1 ≤ lo s[i]
    · refine ev_neg (by omega) ?_
      rw [w64 (by omega) (by omega), show ((i : Int) + 1) = ((i + 1 : Nat) : Int) by omega, decide_eq_true h, Bool.true_and]
      exact ih (i + 1) (by omega)
    · refine ev_pos (by omega) (ev_ret ?_)
      rw [decide_eq_false h, Bool.false_and]
theorem spec_NameOk_ev (s : ByteArray) : Ev (fun k => spec_NameOk.f k s) (okName s.data.toList) := by
  refine ev_bind (ev_eq (spec_l01In_eq _ _ _)) ?_
  unfold okName
  rw [← size_eq]
  by_cases h : 1 ≤ (s.size : Int) ∧ (s.size : Int) ≤ 24
  · refine ev_pos (decide_eq_true h) ?_
    rw [decide_eq_true (show 1 ≤ s.size by omega), decide_eq_true (show s.size ≤ 24 by omega), Bool.true_and, Bool.true_and]
    exact spec_NameOk_l0 s (by omega) s.size 0 (by omega)
  · refine ev_neg (by simp only [decide_eq_true_eq]; exact h) (ev_ret ?_)
    by_cases h1 : 1 ≤ s.size
    · rw [decide_eq_false (show ¬ s.size ≤ 24 by omega)]; simp
    · rw [decide_eq_false h1]; simp

/-! ### spec_WidthOf -/
theorem spec_WidthOf_eq (k : Int) : spec_WidthOf.f k = some (widthOf k) := by
  unfold spec_WidthOf.f widthOf
  simp only [spec_l01In_eq, Option.bind_some, decide_eq_true_eq]
  by_cases h1 : 0 ≤ k ∧ k ≤ 7
  · rw [if_pos h1, if_pos h1]
  rw [if_neg h1, if_neg h1]
  by_cases h2 : 8 ≤ k ∧ k ≤ 15
  · rw [if_pos h2, if_pos h2]
  rw [if_neg h2, if_neg h2]
  by_cases h3 : 16 ≤ k ∧ k ≤ 47
  · rw [if_pos h3, if_pos h3]
  rw [if_neg h3, if_neg h3]

/-! ### spec_BitsOf -/
theorem spec_BitsOf_eq (k : Int) : spec_BitsOf.f k = some (bitsOf k) := by
  unfold spec_BitsOf.f
  simp only [spec_WidthOf_eq, Option.bind_some]
  rcases width_cases k with ⟨e1, e2, h⟩ | ⟨e1, e2, h⟩ | ⟨e1, e2, h⟩ | ⟨e1, e2, h⟩ <;> rw [e1, e2] <;> simp
  · omega
  · rw [w64 (by omega) (by omega)]; omega
  · rw [w64 (by omega) (by omega)]; omega

/-! ### spec_l03One -/
theorem spec_l03One_l0 (s : ByteArray) (hs : s.size ≤ 1000000) (hb : ∀ b ∈ s.data.toList, 1 ≤ lo b) (d : Nat) : ∀ (i : Nat) (f left : Int), i + d = s.size → 0 ≤ left → left ≤ 28 → 0 ≤ f → f + 2 ^ left.toNat ≤ 268435456 →
    Ev (fun k => spec_l03One.l0 k s f left (i : Int)) (f + (one (s.data.toList.drop i) left).1, (i : Int) + ((one (s.data.toList.drop i) left).2 : Int)) := by
  induction d with
  | zero =>
    intro i f left hi h0 h1 h2 h3
    have := two_pow_pos left.toNat
    refine Ev.step (fun k => by rw [spec_l03One.l0]) ?_
    refine ev_neg (by omega) (ev_ret ?_)
    rw [List.drop_of_length_le (by rw [← size_eq]; omega), one]
    simp; omega
  | succ d ih =>
    intro i f left hi h0 h1 h2 h3
    have hlt : i < s.size := by omega
    have hp := two_pow_pos left.toNat
    have hl1 := hb s[i] (by rw [getB hlt]; exact List.getElem_mem _)
    have hlr := lo_range s[i]
    have w := width_in (k := lo s[i]) (by omega) (by omega)
    rw [drop_cons hlt, one]
    refine Ev.step (fun k => by rw [spec_l03One.l0]) ?_
    refine ev_pos (by omega) (ev_pos (by omega) (ev_bind (by rw [bt_at hlt]; exact spec_LetterOf_ev _) (ev_bind (ev_eq (spec_WidthOf_eq _)) ?_)))
    by_cases hw : widthOf (lo s[i]) > left
    · rw [if_pos hw]
      refine ev_pos hw (ev_ret ?_)
      simp; omega
    · rw [if_neg hw]
      have e : left.toNat = (widthOf (lo s[i])).toNat + (left - widthOf (lo s[i])).toNat := by omega
      have hq := two_pow_pos (left - widthOf (lo s[i])).toNat
      have hm : (bitsOf (lo s[i]) + 1) * 2 ^ (left - widthOf (lo s[i])).toNat ≤ 2 ^ left.toNat := by
        rw [e, Int.pow_add]; exact Int.mul_le_mul_of_nonneg_right (by omega) (by omega)
      rw [Int.add_mul] at hm
      have hn := Int.mul_nonneg w.2.2.1 (show 0 ≤ (2 : Int) ^ (left - widthOf (lo s[i])).toNat by omega)
      have hb7 := two_pow_le (a := (widthOf (lo s[i])).toNat) (b := 7) (by omega)
      refine ev_neg hw (ev_bind (ev_eq (spec_BitsOf_eq _)) (ev_pos (by rw [w64 (by omega) (by omega), wu64 (by omega) (by omega)]; omega) ?_))
      rw [w64 (x := bitsOf (lo s[i])) (by omega) (by omega), w64 (x := left - widthOf (lo s[i])) (by omega) (by omega), wu64 (by omega) (by omega), shl_i64 w.2.2.1 (by omega) (by omega), w64 (by omega) (by omega), w64 (by omega) (by omega), show ((i : Int) + 1) = ((i + 1 : Nat) : Int) by omega]
      refine ev_to (ih (i + 1) _ _ (by omega) (by omega) (by omega) (by omega) (by omega)) ?_
      simp only [Prod.mk.injEq]
      constructor <;> omega
theorem spec_l03One_ev (l : List UInt8) (hl : l.length ≤ 1000000) (hb : ∀ b ∈ l, 1 ≤ lo b) : Ev (fun k => spec_l03One.f k (toB l)) ((one l 28).1, ((one l 28).2 : Int)) := by
  refine ev_to (spec_l03One_l0 (toB l) (by rw [toB_size]; exact hl) hb l.length 0 0 28 (by rw [toB_size]; omega) (by omega) (by omega) (by omega) (by decide)) ?_
  rw [toB_data]; simp

/-! ### spec_Pack -/
theorem spec_Pack_l0 (n : Nat) : ∀ (l : List UInt8) (out : List Int), l.length ≤ n → n ≤ 1000000 → (∀ b ∈ l, 1 ≤ lo b) → out.length + l.length ≤ 1000000 → Ev (fun k => spec_Pack.l0 k (toB l) out) (out ++ packF l.length l) := by
  induction n with
  | zero =>
    intro l out hl hn hb ho
    have : l = [] := List.eq_nil_of_length_eq_zero (by omega)
    subst this
    refine Ev.step (fun k => by rw [spec_Pack.l0]) ?_
    exact ev_pos (by rw [ba_toList]; rfl) (ev_ret (by simp [packF]))
  | succ n ih =>
    intro l out hl hn hb ho
    by_cases h : l = []
    · subst h
      refine Ev.step (fun k => by rw [spec_Pack.l0]) ?_
      exact ev_pos (by rw [ba_toList]; rfl) (ev_ret (by simp [packF]))
    · have h1 := one_pos h (left := 28) (by omega)
      have h2 := one_range l 28 (by omega) (by omega) hb
      refine Ev.step (fun k => by rw [spec_Pack.l0]) ?_
      refine ev_neg (by rw [ba_toList, toB_data]; exact h) (ev_bind (spec_l03One_ev l (by omega) hb) (ev_pos (by omega) (ev_pos (by simp only; omega) (ev_pos (by rw [toB_size]; simp only; omega) ?_))))
      rw [packF_step h, extract_eq, toB_data, toB_size, List.take_of_length_le (by omega)]
      simp only [Int.toNat_natCast]
      refine ev_to (ih (l.drop (one l 28).2) (out ++ [(one l 28).1]) (by rw [List.length_drop]; omega) (by omega) (fun b hb' => hb b (List.mem_of_mem_drop hb')) (by simp only [List.length_append, List.length_drop, List.length_cons, List.length_nil]; omega)) ?_
      simp
theorem spec_Pack_ev (l : List UInt8) : Ev (fun k => spec_Pack.f k (toB l)) (pack l) := by
  refine ev_some (ev_bind (spec_NameOk_ev _) ?_)
  rw [toB_data]
  unfold pack
  by_cases h : okName l = true
  · rw [if_pos h]
    obtain ⟨h1, h2, h3⟩ := (okName_iff l).1 h
    exact ev_pos h (spec_Pack_l0 l.length l [] (by omega) (by omega) h3 (by simp; omega))
  · rw [if_neg h]
    exact ev_neg h (ev_ret rfl)

/-! ### spec_Decode -/
theorem spec_Decode_l0 (x n : Int) (hx : 0 ≤ x ∧ x ≤ 4294967295) (hn : 1 ≤ n ∧ n ≤ 32) (d : Nat) (hd : d ≤ 48) : Ev (fun k => spec_Decode.l0 k x n (48 - (d : Int))) (decFrom x n d) := by
  induction d with
  | zero =>
    refine Ev.step (fun k => by rw [spec_Decode.l0]) ?_
    refine ev_neg (by omega) (ev_ret ?_)
    rfl
  | succ d ih =>
    refine Ev.step (fun k => by rw [spec_Decode.l0]) ?_
    refine ev_pos (by omega) (ev_bind (ev_eq (spec_WidthOf_eq _)) ?_)
    have e : (48 : Int) - ((d + 1 : Nat) : Int) = 47 - d := by omega
    have hw := width_in (k := 47 - (d : Int)) (by omega) (by omega)
    rw [e, decFrom, w64 (by omega) (by omega), show ((47 : Int) - d + 1) = 48 - d by omega]
    by_cases h : widthOf (47 - d) ≤ n
    · refine ev_neg (by omega) (ev_pos (by rw [wu64 (by omega) (by omega)]; omega) (ev_pos (by rw [w64 (by omega) (by omega), wu64 (by omega) (by omega)]; omega) (ev_bind (ev_eq (spec_BitsOf_eq _)) ?_)))
      rw [w64 (x := bitsOf _) (by omega) (by have := hw.2.2.2; have := two_pow_le (a := (widthOf (47 - (d : Int))).toNat) (b := 7) (by omega); omega)]
      rw [spec_head x n (widthOf (47 - d)) hx hn (by omega) h]
      have hh : hit x n (47 - d) ↔ x / 2 ^ (n - widthOf (47 - d)).toNat % 2 ^ (widthOf (47 - d)).toNat = bitsOf (47 - d) := ⟨fun k => k.2, fun k => ⟨h, k⟩⟩
      by_cases h' : hit x n (47 - d)
      · rw [if_pos h']; exact ev_pos (hh.1 h') (ev_ret rfl)
      · rw [if_neg h']; exact ev_neg (fun k => h' (hh.2 k)) (ih (by omega))
    · rw [if_neg (fun k => h k.1)]
      exact ev_pos (by omega) (ih (by omega))
theorem spec_Decode_ev (x n : Int) (hx : 0 ≤ x ∧ x ≤ 4294967295) : Ev (fun k => spec_Decode.f k x n) (dcode x n) := by
  refine ev_bind (ev_eq (spec_l01In_eq _ _ _)) ?_
  unfold dcode
  by_cases h : 1 ≤ n ∧ n ≤ 32
  · rw [if_pos h]; exact ev_pos (decide_eq_true h) (spec_Decode_l0 x n hx h 48 (by omega))
  · rw [if_neg h]; exact ev_neg (by simp only [decide_eq_true_eq]; exact h) (ev_ret rfl)

/-! ### spec_LetterAt -/
theorem spec_LetterAt_eq (k : Int) : spec_LetterAt.f k = some (if 0 ≤ k ∧ k ≤ 47 then bt lettersB k else 0) := by
  unfold spec_LetterAt.f spec_l02All.f
  simp only [spec_l01In_eq, Option.bind_some, decide_eq_true_eq]
  by_cases h : 0 ≤ k ∧ k ≤ 47
  · rw [if_pos h, if_pos h, if_pos h.1, if_pos (by show k < 48; omega)]; rfl
  · rw [if_neg h, if_neg h]

/-! ### spec_UnpackOne -/
theorem spec_UnpackOne_l0 (f : Int) (hf : 0 ≤ f ∧ f < 268435456) (d : Nat) : ∀ (acc : List UInt8) (left : Int), 0 ≤ left → left ≤ 28 → left ≤ 4 * d → acc.length + d ≤ 8 →
    Ev (fun k => spec_UnpackOne.l0 k f (acc.map (fun b => (b.toNat : Int))) left) (toB (acc ++ upk f d left)) := by
  induction d with
  | zero =>
    intro acc left h0 h1 h2 h3
    refine Ev.step (fun k => by rw [spec_UnpackOne.l0]) ?_
    refine ev_neg (by omega) ?_
    refine Ev.step (fun k => by rw [spec_UnpackOne.j1]) ?_
    refine ev_neg (by simp) (ev_ret ?_)
    rw [strOf_map]; simp [upk]
  | succ d ih =>
    intro acc left h0 h1 h2 h3
    rw [upk]
    by_cases hz : left = 0
    · subst hz
      refine Ev.step (fun k => by rw [spec_UnpackOne.l0]) ?_
      refine ev_neg (by omega) ?_
      refine Ev.step (fun k => by rw [spec_UnpackOne.j1]) ?_
      refine ev_neg (by simp) (ev_ret ?_)
      rw [strOf_map, if_pos (by simp)]; simp
    · refine Ev.step (fun k => by rw [spec_UnpackOne.l0]) ?_
      refine ev_pos (by omega) (ev_pos (by rw [wu64 (by omega) (by omega)]; omega) ?_)
      have := two_pow_le (a := left.toNat) (b := 28) (by omega)
      have := two_pow_pos left.toNat
      rw [w64 (x := f) (by omega) (by omega), wu64 (x := left) (by omega) (by omega), shl1_i64 (by omega) (by omega), w64 (by omega) (by omega), and_i64 (by omega) (by omega)]
      by_cases hm : f % 2 ^ left.toNat = 0
      · rw [if_pos hm]
        refine Ev.step (fun k => by rw [spec_UnpackOne.j1]) ?_
        refine ev_neg (by simp [hm]) (ev_ret ?_)
        rw [strOf_map]; simp
      · rw [if_neg hm]
        refine Ev.step (fun k => by rw [spec_UnpackOne.j1]) ?_
        refine ev_pos (by simp [hm]) (ev_bind (spec_Decode_ev f left (by omega)) ?_)
        have hd := dcode_range f left
        by_cases hk : (dcode f left).1 < 1
        · rw [if_pos hk]
          refine ev_pos hk (ev_ret ?_)
          rw [strOf_map]; simp
        · rw [if_neg hk]
          refine ev_neg hk (ev_bind (ev_eq (spec_LetterAt_eq _)) (ev_pos (by simp; omega) ?_))
          rw [if_pos (by omega), bt_letter (by omega) (by omega), w64 (by omega) (by omega), map_snoc]
          refine ev_to (ih (acc ++ [letter (dcode f left).1]) _ (by omega) (by omega) (by omega) (by simp; omega)) ?_
          simp
theorem spec_UnpackOne_ev (f : Int) (hf : 0 ≤ f ∧ f ≤ 4294967295) : Ev (fun k => spec_UnpackOne.f k f) (toB (unpackOne f)) := by
  unfold unpackOne
  by_cases h : f ≥ 268435456
  · rw [if_pos h]; exact ev_pos (by rw [w64 (by omega) (by omega)]; exact h) (ev_ret rfl)
  · rw [if_neg h]
    refine ev_neg (by rw [w64 (by omega) (by omega)]; exact h) ?_
    exact ev_to (spec_UnpackOne_l0 f (by omega) 8 [] 28 (by omega) (by omega) (by omega) (by simp)) (by simp)

/-! ### spec_FieldOk -/
theorem spec_FieldOk_ev (f : Int) (hf : 0 ≤ f ∧ f ≤ 4294967295) : Ev (fun k => spec_FieldOk.f k f) (fieldOk f) := by
  refine ev_bind (spec_UnpackOne_ev f hf) (ev_bind (spec_Pack_ev _) ?_)
  unfold fieldOk
  by_cases h : ((pack (unpackOne f)).length : Int) = 1
  · refine ev_pos h (ev_pos (by omega) (ev_ret ?_))
    obtain ⟨a, ha⟩ := List.length_eq_one_iff.1 (show (pack (unpackOne f)).length = 1 by omega)
    rw [ha]; simp [rd]
    rfl
  · refine ev_neg h (ev_ret ?_)
    rw [decide_eq_false]
    intro e
    rw [e] at h
    simp at h

/-! ### strings_IndexByte -/
theorem strings_IndexByte_eq (b : UInt8) : strings_IndexByte.f lettersB (b.toNat : Int) = some (lo b) := by
  unfold strings_IndexByte.f stringslite_IndexByte.f lo
  simp

/-! ### impl_LetterOf -/
theorem impl_LetterOf_eq (b : UInt8) : impl_LetterOf.f (b.toNat : Int) = some (lo b) := by
  unfold impl_LetterOf.f
  have e : impl_letters.f = some lettersB := rfl
  rw [e]
  simp only [Option.bind_some]
  rw [strings_IndexByte_eq]
  rfl

/-! ### impl_within -/
theorem impl_within_eq (a b c : Int) : impl_within.f a b c = some (decide (b ≤ a ∧ a ≤ c)) := by
  unfold impl_within.f
  by_cases h : b ≤ a
  · rw [if_pos h]; simp [h]
  · rw [if_neg h]; simp [h]

/-! ### impl_NameOk -/
theorem impl_NameOk_l0 (s : ByteArray) (hs : s.size ≤ 1048576) (d : Nat) : ∀ i : Nat, i + d = s.size → Ev (fun k => impl_NameOk.l0 k s (s.size : Int) (i : Int)) ((s.data.toList.drop i).all (fun b => decide (1 ≤ lo b)) && decide (1 ≤ s.size ∧ s.size ≤ 24)) := by
  induction d with
  | zero =>
    intro i hi
    refine Ev.step (fun k => by rw [impl_NameOk.l0]) ?_
    refine ev_neg (by omega) (ev_bind (ev_eq (impl_within_eq _ _ _)) (ev_ret ?_))
    rw [List.drop_of_length_le (by rw [← size_eq]; omega), List.all_nil, Bool.true_and]
    rw [Bool.eq_iff_iff, decide_eq_true_eq, decide_eq_true_eq]; omega
  | succ d ih =>
    intro i hi
    have hlt : i < s.size := by omega
    refine Ev.step (fun k => by rw [impl_NameOk.l0]) ?_
    refine ev_pos (by omega) (ev_pos (by omega) (ev_pos (by omega) (ev_bind (ev_eq (by rw [bt_at hlt]; exact impl_LetterOf_eq _)) ?_)))
    rw [drop_cons hlt, List.all_cons]
    by_cases h : 1 ≤ lo s[i]
    · refine ev_neg (by omega) ?_
      rw [w64 (by omega) (by omega), show ((i : Int) + 1) = ((i + 1 : Nat) : Int) by omega, decide_eq_true h, Bool.true_and]
      exact ih (i + 1) (by omega)
    · refine ev_pos (by omega) (ev_ret ?_)
      rw [decide_eq_false h, Bool.false_and, Bool.false_and]
theorem impl_NameOk_ev (s : ByteArray) (hs : s.size ≤ 1048576) : Ev (fun k => impl_NameOk.f k s) (okName s.data.toList) := by
  refine ev_to (impl_NameOk_l0 s hs s.size 0 (by omega)) ?_
  unfold okName
  rw [← size_eq, List.drop_zero, Bool.eq_iff_iff]
  simp only [Bool.and_eq_true, decide_eq_true_eq]
  exact ⟨fun h => ⟨h.2, h.1⟩, fun h => ⟨h.2, h.1⟩⟩

/-! ### impl_WidthOf -/
theorem impl_WidthOf_eq (k : Int) : impl_WidthOf.f k = some (widthOf k) := by
  unfold impl_WidthOf.f widthOf
  simp only [impl_within_eq, Option.bind_some, decide_eq_true_eq]
  by_cases h1 : 0 ≤ k ∧ k ≤ 7
  · rw [if_pos h1, if_pos h1]
  rw [if_neg h1, if_neg h1]
  by_cases h2 : 8 ≤ k ∧ k ≤ 15
  · rw [if_pos h2, if_pos h2]
  rw [if_neg h2, if_neg h2]
  by_cases h3 : 16 ≤ k ∧ k ≤ 47
  · rw [if_pos h3, if_pos h3]
  rw [if_neg h3, if_neg h3]

/-! ### impl_BitsOf -/
theorem impl_BitsOf_eq (k : Int) : impl_BitsOf.f k = some (bitsOf k) := by
  unfold impl_BitsOf.f
  simp only [impl_WidthOf_eq, Option.bind_some]
  rcases width_cases k with ⟨e1, e2, h⟩ | ⟨e1, e2, h⟩ | ⟨e1, e2, h⟩ | ⟨e1, e2, h⟩ <;> rw [e1, e2] <;> simp
  · omega
  · omega
  · omega

/-! ### impl_PackOne -/
theorem impl_PackOne_l0 (s : ByteArray) (hs : s.size ≤ 1000000) (hb : ∀ b ∈ s.data.toList, 1 ≤ lo b) (d : Nat) : ∀ (i : Nat) (f left : Int), i + d = s.size → 0 ≤ left → left ≤ 28 → 0 ≤ f → f % 2 ^ left.toNat = 0 → f + 2 ^ left.toNat ≤ 268435456 →
    Ev (fun k => impl_PackOne.l0 k s f left (i : Int) (s.size : Int) (i : Int)) (f + (one (s.data.toList.drop i) left).1, (i : Int) + ((one (s.data.toList.drop i) left).2 : Int)) := by
  induction d with
  | zero =>
    intro i f left hi h0 h1 h2 hm h3
    have := two_pow_pos left.toNat
    refine Ev.step (fun k => by rw [impl_PackOne.l0]) ?_
    refine ev_neg (by omega) (ev_ret ?_)
    rw [List.drop_of_length_le (by rw [← size_eq]; omega), one]
    simp
  | succ d ih =>
    intro i f left hi h0 h1 h2 hm0 h3
    have hlt : i < s.size := by omega
    have hp := two_pow_pos left.toNat
    have hl1 := hb s[i] (by rw [getB hlt]; exact List.getElem_mem _)
    have hlr := lo_range s[i]
    have w := width_in (k := lo s[i]) (by omega) (by omega)
    rw [drop_cons hlt, one]
    refine Ev.step (fun k => by rw [impl_PackOne.l0]) ?_
    refine ev_pos (by omega) (ev_pos (by omega) (ev_pos (by omega) (ev_bind (ev_eq (by rw [bt_at hlt]; exact impl_LetterOf_eq _)) (ev_bind (ev_eq (impl_WidthOf_eq _)) ?_))))
    by_cases hw : widthOf (lo s[i]) > left
    · rw [if_pos hw]
      refine ev_pos hw (ev_ret ?_)
      simp
    · rw [if_neg hw]
      have e : left.toNat = (widthOf (lo s[i])).toNat + (left - widthOf (lo s[i])).toNat := by omega
      have hq := two_pow_pos (left - widthOf (lo s[i])).toNat
      have hm : (bitsOf (lo s[i]) + 1) * 2 ^ (left - widthOf (lo s[i])).toNat ≤ 2 ^ left.toNat := by
        rw [e, Int.pow_add]; exact Int.mul_le_mul_of_nonneg_right (by omega) (by omega)
      rw [Int.add_mul] at hm
      have hn := Int.mul_nonneg w.2.2.1 (show 0 ≤ (2 : Int) ^ (left - widthOf (lo s[i])).toNat by omega)
      refine ev_neg hw (ev_bind (ev_eq (impl_WidthOf_eq _)) (ev_bind (ev_eq (impl_BitsOf_eq _)) (ev_pos (by rw [w64 (by omega) (by omega)]; omega) ?_)))
      rw [w64 (x := left - widthOf (lo s[i])) (by omega) (by omega), shl_u32 w.2.2.1 (by omega) (by omega), w64 (by omega) (by omega), show ((i : Int) + 1) = ((i + 1 : Nat) : Int) by omega]
      rw [or_u32 left.toNat (by omega) hm0 (by omega) (by omega) (by omega)]
      refine ev_to (ih (i + 1) _ _ (by omega) (by omega) (by omega) (by omega) ?_ (by omega)) ?_
      · have e2 : (f + bitsOf (lo s[i]) * 2 ^ (left - widthOf (lo s[i])).toNat) = (2 : Int) ^ (left - widthOf (lo s[i])).toNat * (2 ^ (widthOf (lo s[i])).toNat * (f / 2 ^ left.toNat) + bitsOf (lo s[i])) := by
          have h4 := Int.mul_ediv_add_emod f (2 ^ left.toNat)
          rw [hm0, e, Int.pow_add] at h4
          rw [Int.mul_add, Int.mul_comm (bitsOf _), e, Int.pow_add]
          rw [← Int.mul_assoc, Int.mul_comm (2 ^ (left - widthOf (lo s[i])).toNat) (2 ^ (widthOf (lo s[i])).toNat)]
          omega
        rw [e2, Int.mul_emod_right]
      · simp only [Prod.mk.injEq]
        constructor <;> omega
theorem impl_PackOne_ev (l : List UInt8) (hl : l.length ≤ 1048576) : Ev (fun k => impl_PackOne.f k (toB l)) (if okName l = true then ((one l 28).1, ((one l 28).2 : Int)) else (0, 0)) := by
  refine ev_bind (impl_NameOk_ev (toB l) (by rw [toB_size]; omega)) ?_
  rw [toB_data]
  by_cases h : okName l = true
  · rw [if_pos h]
    obtain ⟨h1, h2, h3⟩ := (okName_iff l).1 h
    refine ev_pos h (ev_to (impl_PackOne_l0 (toB l) (by rw [toB_size]; omega) h3 l.length 0 0 28 (by rw [toB_size]; omega) (by omega) (by omega) (by omega) (by simp) (by decide)) ?_)
    rw [toB_data]; simp
  · rw [if_neg h]
    exact ev_neg h (ev_ret rfl)

/-! ### impl_Pack -/
theorem impl_Pack_l0 (n : Nat) : ∀ (l : List UInt8) (out : List Int), l.length ≤ n → n ≤ 24 → (∀ b ∈ l, 1 ≤ lo b) → out.length + l.length ≤ 1000000 → Ev (fun k => impl_Pack.l0 k (toB l) out) (out ++ packF l.length l) := by
  have stop : ∀ out : List Int, Ev (fun k => impl_Pack.l0 k (toB []) out) (out ++ packF 0 []) := by
    intro out
    refine Ev.step (fun k => by rw [impl_Pack.l0]) ?_
    refine ev_bind (impl_NameOk_ev _ (by decide)) (ev_neg (by decide) (ev_ret ?_))
    simp [packF]
  induction n with
  | zero =>
    intro l out hl hn hb ho
    have : l = [] := List.eq_nil_of_length_eq_zero (by omega)
    subst this
    exact stop out
  | succ n ih =>
    intro l out hl hn hb ho
    by_cases h : l = []
    · subst h; exact stop out
    · have h1 := one_pos h (left := 28) (by omega)
      have h2 := one_range l 28 (by omega) (by omega) hb
      have hok : okName l = true := (okName_iff l).2 ⟨List.length_pos_iff.2 h, by omega, hb⟩
      have hone := impl_PackOne_ev l (by omega)
      rw [if_pos hok] at hone
      refine Ev.step (fun k => by rw [impl_Pack.l0]) ?_
      refine ev_bind (impl_NameOk_ev _ (by rw [toB_size]; omega)) (ev_pos (by rw [toB_data]; exact hok) (ev_bind hone (ev_pos (by omega) (ev_pos (by simp only; omega) (ev_pos (by rw [toB_size]; simp only; omega) ?_)))))
      rw [packF_step h, extract_eq, toB_data, toB_size, List.take_of_length_le (by omega)]
      simp only [Int.toNat_natCast]
      refine ev_to (ih (l.drop (one l 28).2) (out ++ [(one l 28).1]) (by rw [List.length_drop]; omega) (by omega) (fun b hb' => hb b (List.mem_of_mem_drop hb')) (by simp only [List.length_append, List.length_drop, List.length_cons, List.length_nil]; omega)) ?_
      simp
theorem impl_Pack_ev (l : List UInt8) (hl : l.length ≤ 1048576) : Ev (fun k => impl_Pack.f k (toB l)) (pack l) := by
  unfold pack
  by_cases h : okName l = true
  · rw [if_pos h]
    obtain ⟨h1, h2, h3⟩ := (okName_iff l).1 h
    exact impl_Pack_l0 l.length l [] (by omega) h2 h3 (by simp; omega)
  · rw [if_neg h]
    refine Ev.step (g := fun k => impl_Pack.l0 k (toB l) []) (fun k => by rw [impl_Pack.l0]) ?_
    exact ev_bind (impl_NameOk_ev _ (by rw [toB_size]; omega)) (ev_neg (by rw [toB_data]; exact h) (ev_ret rfl))

/-! ### impl_Decode -/
theorem impl_Decode_l0 (x n : Int) (hx : 0 ≤ x ∧ x ≤ 4294967295) (hn : 1 ≤ n ∧ n ≤ 32) (d : Nat) (hd : d ≤ 48) : Ev (fun k => impl_Decode.l0 k x n (48 - (d : Int))) (decFrom x n d) := by
  induction d with
  | zero =>
    refine Ev.step (fun k => by rw [impl_Decode.l0]) ?_
    refine ev_neg (by omega) (ev_ret ?_)
    rfl
  | succ d ih =>
    refine Ev.step (fun k => by rw [impl_Decode.l0]) ?_
    refine ev_pos (by omega) (ev_bind (ev_eq (impl_WidthOf_eq _)) ?_)
    have e : (48 : Int) - ((d + 1 : Nat) : Int) = 47 - d := by omega
    have hw := width_in (k := 47 - (d : Int)) (by omega) (by omega)
    rw [e, decFrom, w64 (x := 47 - (d : Int) + 1) (by omega) (by omega), show ((47 : Int) - d + 1) = 48 - d by omega]
    by_cases h : widthOf (47 - d) ≤ n
    · refine ev_pos h (ev_pos (by rw [w64 (by omega) (by omega)]; omega) (ev_pos (by omega) (ev_bind (ev_eq (impl_BitsOf_eq _)) ?_)))
      rw [impl_head x n (widthOf (47 - d)) hx hn (by omega) h]
      have hh : hit x n (47 - d) ↔ x / 2 ^ (n - widthOf (47 - d)).toNat % 2 ^ (widthOf (47 - d)).toNat = bitsOf (47 - d) := ⟨fun k => k.2, fun k => ⟨h, k⟩⟩
      by_cases h' : hit x n (47 - d)
      · rw [if_pos h']; exact ev_pos (hh.1 h') (ev_ret rfl)
      · rw [if_neg h']; exact ev_neg (fun k => h' (hh.2 k)) (ih (by omega))
    · rw [if_neg (fun k => h k.1)]
      exact ev_neg h (ih (by omega))
theorem impl_Decode_ev (x n : Int) (hx : 0 ≤ x ∧ x ≤ 4294967295) : Ev (fun k => impl_Decode.f k x n) (dcode x n) := by
  refine ev_bind (ev_eq (impl_within_eq _ _ _)) ?_
  unfold dcode
  by_cases h : 1 ≤ n ∧ n ≤ 32
  · rw [if_pos h]; exact ev_pos (decide_eq_true h) (impl_Decode_l0 x n hx h 48 (by omega))
  · rw [if_neg h]; exact ev_neg (by simp only [decide_eq_true_eq]; exact h) (ev_ret rfl)

/-! ### impl_LetterAt -/
theorem impl_LetterAt_eq (k : Int) : impl_LetterAt.f k = some (if 0 ≤ k ∧ k ≤ 47 then bt lettersB k else 0) := by
  unfold impl_LetterAt.f impl_letters.f
  simp only [impl_within_eq, Option.bind_some, decide_eq_true_eq]
  by_cases h : 0 ≤ k ∧ k ≤ 47
  · rw [if_pos h, if_pos h, if_pos h.1, if_pos (by show k < 48; omega)]; rfl
  · rw [if_neg h, if_neg h]

/-! ### impl_UnpackOne -/
theorem impl_UnpackOne_l0 (f : Int) (hf : 0 ≤ f ∧ f < 268435456) (d : Nat) : ∀ (acc : List UInt8) (left : Int), 0 ≤ left → left ≤ 28 → left ≤ 4 * d → acc.length + d ≤ 8 →
    Ev (fun k => impl_UnpackOne.l0 k f (acc.map (fun b => (b.toNat : Int))) left) (toB (acc ++ upk f d left)) := by
  have stop : ∀ (acc : List UInt8) (left : Int), 0 ≤ left → left ≤ 28 → f % 2 ^ left.toNat = 0 → Ev (fun k => impl_UnpackOne.l0 k f (acc.map (fun b => (b.toNat : Int))) left) (toB acc) := by
    intro acc left h0 h1 hz
    refine Ev.step (fun k => by rw [impl_UnpackOne.l0]) ?_
    refine ev_pos h0 (ev_pos ?_ (ev_ret (strOf_map acc)))
    have := two_pow_le (a := left.toNat) (b := 28) (by omega)
    have := two_pow_pos left.toNat
    rw [shl1_u32 (by omega) (by omega), show ((2 : Int) ^ left.toNat - 1) % 4294967296 = 2 ^ left.toNat - 1 by omega, and_u32 (by omega) (by omega)]
    exact hz
  induction d with
  | zero =>
    intro acc left h0 h1 h2 h3
    have : left = 0 := by omega
    subst this
    rw [upk, List.append_nil]
    exact stop acc 0 (by omega) (by omega) (by simp)
  | succ d ih =>
    intro acc left h0 h1 h2 h3
    rw [upk]
    by_cases hm : f % 2 ^ left.toNat = 0
    · rw [if_pos hm, List.append_nil]
      exact stop acc left h0 h1 hm
    · rw [if_neg hm]
      refine Ev.step (fun k => by rw [impl_UnpackOne.l0]) ?_
      have := two_pow_le (a := left.toNat) (b := 28) (by omega)
      have := two_pow_pos left.toNat
      refine ev_pos h0 (ev_neg ?_ ?_)
      · rw [shl1_u32 (by omega) (by omega), show ((2 : Int) ^ left.toNat - 1) % 4294967296 = 2 ^ left.toNat - 1 by omega, and_u32 (by omega) (by omega)]
        exact hm
      refine ev_bind (impl_Decode_ev f left (by omega)) ?_
      have hd := dcode_range f left
      by_cases hk : (dcode f left).1 < 1
      · rw [if_pos hk]
        refine ev_pos hk (ev_ret ?_)
        rw [strOf_map]; simp
      · rw [if_neg hk]
        refine ev_neg hk (ev_bind (ev_eq (impl_LetterAt_eq _)) (ev_pos (by simp; omega) ?_))
        rw [if_pos (by omega), bt_letter (by omega) (by omega), w64 (by omega) (by omega), map_snoc]
        refine ev_to (ih (acc ++ [letter (dcode f left).1]) _ (by omega) (by omega) (by omega) (by simp; omega)) ?_
        simp
theorem impl_UnpackOne_ev (f : Int) (hf : 0 ≤ f ∧ f ≤ 4294967295) : Ev (fun k => impl_UnpackOne.f k f) (toB (unpackOne f)) := by
  unfold unpackOne
  by_cases h : f ≥ 268435456
  · rw [if_pos h]; exact ev_pos h (ev_ret rfl)
  · rw [if_neg h]
    refine ev_neg h ?_
    exact ev_to (impl_UnpackOne_l0 f (by omega) 8 [] 28 (by omega) (by omega) (by omega) (by simp)) (by simp)

/-! ### slices_Equal_uint32_uint32 -/
theorem slices_Equal_u32_l0 (a b : List Int) (hl : a.length ≤ 70368744177664) (he : a.length = b.length) (d : Nat) : ∀ (i : Nat), i + d = a.length → Ev (fun k => slices_Equal_uint32_uint32.l0 k a b (a.length : Int) (i : Int)) (decide (a.drop i = b.drop i)) := by
  induction d with
  | zero =>
    intro i hi
    refine Ev.step (fun k => by rw [slices_Equal_uint32_uint32.l0]) ?_
    refine ev_neg (by omega) (ev_ret ?_)
    rw [List.drop_of_length_le (by omega), List.drop_of_length_le (by omega)]; simp
  | succ d ih =>
    intro i hi
    refine Ev.step (fun k => by rw [slices_Equal_uint32_uint32.l0]) ?_
    refine ev_pos (by omega) (ev_pos (by omega) (ev_pos (by omega) (ev_pos (by omega) ?_)))
    rw [rd_nat (by omega), rd_nat (by omega), List.drop_eq_getElem_cons (by omega : i < a.length), List.drop_eq_getElem_cons (by omega : i < b.length)]
    by_cases h : a[i] = b[i]
    · refine ev_pos h ?_
      rw [w64 (by omega) (by omega), show ((i : Int) + 1) = ((i + 1 : Nat) : Int) by omega]
      exact ev_to (ih (i + 1) (by omega)) (dec_cons h)
    · exact ev_neg h (ev_ret (dec_cons_ne h))
theorem slices_Equal_u32_ev (a b : List Int) (hl : a.length ≤ 70368744177664) : Ev (fun k => slices_Equal_uint32_uint32.f k a b) (decide (a = b)) := by
  by_cases h : a.length = b.length
  · exact ev_pos (by omega) (ev_to (slices_Equal_u32_l0 a b hl h a.length 0 (by omega)) (by simp))
  · refine ev_neg (by omega) (ev_ret ?_)
    rw [decide_eq_false]
    intro e
    exact h (by rw [e])

/-! ### impl_FieldOk -/
theorem impl_FieldOk_ev (f : Int) (hf : 0 ≤ f ∧ f ≤ 4294967295) : Ev (fun k => impl_FieldOk.f k f) (fieldOk f) := by
  have hu := unpackOne_length f
  have hp := pack_length (unpackOne f)
  exact ev_bind (impl_UnpackOne_ev f hf) (ev_bind (impl_Pack_ev _ (by omega)) (ev_bind (slices_Equal_u32_ev _ _ (by omega)) (ev_ret rfl)))

/-! ### FnExactFieldOk -/
theorem FnExactFieldOk : laws_FnExactFieldOk.Pure := by
  intro f w
  have h := wf_u32 w
  refine Ev.rounds (r := true) ?_
  exact ev_bind (spec_FieldOk_ev f h) (ev_bind (impl_FieldOk_ev f h) (ev_neg (by simp) (ev_ret rfl)))

end Go.Proofs.Ytcfihncnendkgaa.Pure
