/-
The law FnFields holds of the printed plain functions, for all arguments that the printed bounds allow.
-/
import Derived.Test.YtcfihncnendkgaaQFnFieldsx1
import Derived.Test.YtcfihncnendkgaaQFnFieldsx2
import Derived.Test.YtcfihncnendkgaaQFnFieldsx3
import Derived.Test.YtcfihncnendkgaaQFnFieldsx4
import Derived.Test.YtcfihncnendkgaaQFnFieldsx5
import Derived.Test.YtcfihncnendkgaaQFnFieldsx6
import Derived.Test.YtcfihncnendkgaaTools
import Derived.Test.YtcfihncnendkgaaLetters
import Derived.Test.YtcfihncnendkgaaHeads
import Derived.Test.YtcfihncnendkgaaSpots
import Derived.Test.YtcfihncnendkgaaNames
import Derived.Test.YtcfihncnendkgaaDraws
import Derived.Test.YtcfihncnendkgaaRound
import Derived.Test.YtcfihncnendkgaaNums
import Derived.Test.YtcfihncnendkgaaStores
import Derived.Test.YtcfihncnendkgaaXors
namespace Go.Proofs.Ytcfihncnendkgaa.Pure
open Go.RowKit Go.Proofs.Ytcfihncnendkgaa.QFnFields Go.Proofs.YtcfihncnendkgaaW.PrintWords Go.Proofs.YtcfihncnendkgaaW.PrintLast Go.Proofs.YtcfihncnendkgaaW.PrintMore Go.Proofs.Ytcfihncnendkgaa.Tools Go.Proofs.Ytcfihncnendkgaa.Plain
set_option linter.unusedVariables false

/-! ### spec_l01In -/
theorem spec_l01In_eq (a b c : Int) : spec_l01In.f a b c = some (decide (b ≤ a ∧ a ≤ c)) := by
  unfold spec_l01In.f
  by_cases h : b ≤ a
  · rw [if_pos h]; simp [h]
  · rw [if_neg h]; simp [h]

/-! ### spec_LetterOf -/
theorem spec_LetterOf_all : ∀ b : UInt8, spec_LetterOf.f 49 (b.toNat : Int) = some (lo b) := all_bytes (by decide +kernel)
theorem spec_LetterOf_ev (b : UInt8) : Ev (fun k => spec_LetterOf.f k (b.toNat : Int)) (lo b) := Ev.of (spec_LetterOf.mono _) (spec_LetterOf_all b)

/-! ### spec_NameOk -/
theorem spec_NameOk_l0 (s : ByteArray) (hs : s.size ≤ 24) (d : Nat) : ∀ i : Nat, i + d = s.size → Ev (fun k => spec_NameOk.l0 k s (i : Int)) ((s.data.toList.drop i).all (fun b => decide (1 ≤ lo b))) := by
  induction d with
  | zero =>
    intro i hi
    refine Ev.step (fun k => by rw [spec_NameOk.l0]) ?_
    refine ev_neg (by omega) (ev_ret ?_)
    rw [List.drop_of_length_le (by rw [← size_eq]; omega)]; rfl
  | succ d ih =>
    intro i hi
    have hlt : i < s.size := by omega
    refine Ev.step (fun k => by rw [spec_NameOk.l0]) ?_
    refine ev_pos (by omega) (ev_pos (by omega) (ev_bind (by rw [bt_at hlt]; exact spec_LetterOf_ev _) ?_))
    rw [drop_cons hlt, List.all_cons]
    by_cases h : 1 ≤ lo s[i]
    · refine ev_neg (by omega) ?_
      rw [w64 (by omega) (by omega), show ((i : Int) + 1) = ((i + 1 : Nat) : Int) by omega, decide_eq_true h, Bool.true_and]
      exact ih (i + 1) (by omega)
    · refine ev_pos (by omega) (ev_ret ?_)
      rw [decide_eq_false h, Bool.false_and]
theorem spec_NameOk_ev (s : ByteArray) : Ev (fun k => spec_NameOk.f k s) (okName s.data.toList) := by
  refine ev_bind (ev_eq (spec_l01In_eq _ _ _)) ?_
  unfold okName
  rw [← size_eq]
  by_cases h : 1 ≤ (s.size : Int) ∧ (s.size : Int) ≤ 24
  · refine ev_pos (decide_eq_true h) ?_
    rw [decide_eq_true (show 1 ≤ s.size by omega), decide_eq_true (show s.size ≤ 24 by omega), Bool.true_and, Bool.true_and]
    exact spec_NameOk_l0 s (by omega) s.size 0 (by omega)
  · refine ev_neg (by simp only [decide_eq_true_eq]; exact h) (ev_ret ?_)
    by_cases h1 : 1 ≤ s.size
    · rw [decide_eq_false (show ¬ s.size ≤ 24 by omega)]; simp
    · rw [decide_eq_false h1]; simp

/-! ### spec_WidthOf -/
theorem spec_WidthOf_eq (k : Int) : spec_WidthOf.f k = some (widthOf k) := by
  unfold spec_WidthOf.f widthOf
  simp only [spec_l01In_eq, Option.bind_some, decide_eq_true_eq]
  by_cases h1 : 0 ≤ k ∧ k ≤ 7
  · rw [if_pos h1, if_pos h1]
  rw [if_neg h1, if_neg h1]
  by_cases h2 : 8 ≤ k ∧ k ≤ 15
  · rw [if_pos h2, if_pos h2]
  rw [if_neg h2, if_neg h2]
  by_cases h3 : 16 ≤ k ∧ k ≤ 47
  · rw [if_pos h3, if_pos h3]
  rw [if_neg h3, if_neg h3]

/-! ### spec_BitsOf -/
theorem spec_BitsOf_eq (k : Int) : spec_BitsOf.f k = some (bitsOf k) := by
  unfold spec_BitsOf.f
  simp only [spec_WidthOf_eq, Option.bind_some]
  rcases width_cases k with ⟨e1, e2, h⟩ | ⟨e1, e2, h⟩ | ⟨e1, e2, h⟩ | ⟨e1, e2, h⟩ <;> rw [e1, e2] <;> simp
  · omega
  · rw [w64 (by omega) (by omega)]; omega
  · rw [w64 (by omega) (by omega)]; omega

/-! ### spec_l03One -/
theorem spec_l03One_l0 (s : ByteArray) (hs : s.size ≤ 1000000) (hb : ∀ b ∈ s.data.toList, 1 ≤ lo b) (d : Nat) : ∀ (i : Nat) (f left : Int), i + d = s.size → 0 ≤ left → left ≤ 28 → 0 ≤ f → f + 2 ^ left.toNat ≤ 268435456 →
    Ev (fun k => spec_l03One.l0 k s f left (i : Int)) (f + (one (s.data.toList.drop i) left).1, (i : Int) + ((one (s.data.toList.drop i) left).2 : Int)) := by
  induction d with
  | zero =>
    intro i f left hi h0 h1 h2 h3
    have := two_pow_pos left.toNat
    refine Ev.step (fun k => by rw [spec_l03One.l0]) ?_
    refine ev_neg (by omega) (ev_ret ?_)
    rw [List.drop_of_length_le (by rw [← size_eq]; omega), one]
    simp; omega
  | succ d ih =>
    intro i f left hi h0 h1 h2 h3
    have hlt : i < s.size := by omega
    have hp := two_pow_pos left.toNat
    have hl1 := hb s[i] (by rw [getB hlt]; exact List.getElem_mem _)
    have hlr := lo_range s[i]
    have w := width_in (k := lo s[i]) (by omega) (by omega)
    rw [drop_cons hlt, one]
    refine Ev.step (fun k => by rw [spec_l03One.l0]) ?_
    refine ev_pos (by omega) (ev_pos (by omega) (ev_bind (by rw [bt_at hlt]; exact spec_LetterOf_ev _) (ev_bind (ev_eq (spec_WidthOf_eq _)) ?_)))
    by_cases hw : widthOf (lo s[i]) > left
    · rw [if_pos hw]
      refine ev_pos hw (ev_ret ?_)
      simp; omega
    · rw [if_neg hw]
      have e : left.toNat = (widthOf (lo s[i])).toNat + (left - widthOf (lo s[i])).toNat := by omega
      have hq := two_pow_pos (left - widthOf (lo s[i])).toNat
      have hm : (bitsOf (lo s[i]) + 1) * 2 ^ (left - widthOf (lo s[i])).toNat ≤ 2 ^ left.toNat := by
        rw [e, Int.pow_add]; exact Int.mul_le_mul_of_nonneg_right (by omega) (by omega)
      rw [Int.add_mul] at hm
      have hn := Int.mul_nonneg w.2.2.1 (show 0 ≤ (2 : Int) ^ (left - widthOf (lo s[i])).toNat by omega)
      have hb7 := two_pow_le (a := (widthOf (lo s[i])).toNat) (b := 7) (by omega)
      refine ev_neg hw (ev_bind (ev_eq (spec_BitsOf_eq _)) (ev_pos (by rw [w64 (by omega) (by omega), wu64 (by omega) (by omega)]; omega) ?_))
      rw [w64 (x := bitsOf (lo s[i])) (by omega) (by omega), w64 (x := left - widthOf (lo s[i])) (by omega) (by omega), wu64 (by omega) (by omega), shl_i64 w.2.2.1 (by omega) (by omega), w64 (by omega) (by omega), w64 (by omega) (by omega), show ((i : Int) + 1) = ((i + 1 : Nat) : Int) by omega]
      refine ev_to (ih (i + 1) _ _ (by omega) (by omega) (by omega) (by omega) (by omega)) ?_
      simp only [Prod.mk.injEq]
      constructor <;> omega
theorem spec_l03One_ev (l : List UInt8) (hl : l.length ≤ 1000000) (hb : ∀ b ∈ l, 1 ≤ lo b) : Ev (fun k => spec_l03One.f k (toB l)) ((one l 28).1, ((one l 28).2 : Int)) := by
  refine ev_to (spec_l03One_l0 (toB l) (by rw [toB_size]; exact hl) hb l.length 0 0 28 (by rw [toB_size]; omega) (by omega) (by omega) (by omega) (by decide)) ?_
  rw [toB_data]; simp

/-! ### spec_Pack -/
theorem spec_Pack_l0 (n : Nat) : ∀ (l : List UInt8) (out : List Int), l.length ≤ n → n ≤ 1000000 → (∀ b ∈ l, 1 ≤ lo b) → out.length + l.length ≤ 1000000 → Ev (fun k => spec_Pack.l0 k (toB l) out) (out ++ packF l.length l) := by
  induction n with
  | zero =>
    intro l out hl hn hb ho
    have : l = [] := List.eq_nil_of_length_eq_zero (by omega)
    subst this
    refine Ev.step (fun k => by rw [spec_Pack.l0]) ?_
    exact ev_pos (by rw [ba_toList]; rfl) (ev_ret (by simp [packF]))
  | succ n ih =>
    intro l out hl hn hb ho
    by_cases h : l = []
    · subst h
      refine Ev.step (fun k => by rw [spec_Pack.l0]) ?_
      exact ev_pos (by rw [ba_toList]; rfl) (ev_ret (by simp [packF]))
    · have h1 := one_pos h (left := 28) (by omega)
      have h2 := one_range l 28 (by omega) (by omega) hb
      refine Ev.step (fun k => by rw [spec_Pack.l0]) ?_
      refine ev_neg (by rw [ba_toList, toB_data]; exact h) (ev_bind (spec_l03One_ev l (by omega) hb) (ev_pos (by omega) (ev_pos (by simp only; omega) (ev_pos (by rw [toB_size]; simp only; omega) ?_))))
      rw [packF_step h, extract_eq, toB_data, toB_size, List.take_of_length_le (by omega)]
      simp only [Int.toNat_natCast]
      refine ev_to (ih (l.drop (one l 28).2) (out ++ [(one l 28).1]) (by rw [List.length_drop]; omega) (by omega) (fun b hb' => hb b (List.mem_of_mem_drop hb')) (by simp only [List.length_append, List.length_drop, List.length_cons, List.length_nil]; omega)) ?_
      simp
theorem spec_Pack_ev (l : List UInt8) : Ev (fun k => spec_Pack.f k (toB l)) (pack l) := by
  refine ev_some (ev_bind (spec_NameOk_ev _) ?_)
  rw [toB_data]
  unfold pack
  by_cases h : okName l = true
  · rw [if_pos h]
    obtain ⟨h1, h2, h3⟩ := (okName_iff l).1 h
    exact ev_pos h (spec_Pack_l0 l.length l [] (by omega) (by omega) h3 (by simp; omega))
  · rw [if_neg h]
    exact ev_neg h (ev_ret rfl)

/-! ### spec_Decode -/
theorem spec_Decode_l0 (x n : Int) (hx : 0 ≤ x ∧ x ≤ 4294967295) (hn : 1 ≤ n ∧ n ≤ 32) (d : Nat) (hd : d ≤ 48) : Ev (fun k => spec_Decode.l0 k x n (48 - (d : Int))) (decFrom x n d) := by
  induction d with
  | zero =>
    refine Ev.step (fun k => by rw [spec_Decode.l0]) ?_
    refine ev_neg (by omega) (ev_ret ?_)
    rfl
  | succ d ih =>
    refine Ev.step (fun k => by rw [spec_Decode.l0]) ?_
    refine ev_pos (by omega) (ev_bind (ev_eq (spec_WidthOf_eq _)) ?_)
    have e : (48 : Int) - ((d + 1 : Nat) : Int) = 47 - d := by omega
    have hw := width_in (k := 47 - (d : Int)) (by omega) (by omega)
    rw [e, decFrom, w64 (by omega) (by omega), show ((47 : Int) - d + 1) = 48 - d by omega]
    by_cases h : widthOf (47 - d) ≤ n
    · refine ev_neg (by omega) (ev_pos (by rw [wu64 (by omega) (by omega)]; omega) (ev_pos (by rw [w64 (by omega) (by omega), wu64 (by omega) (by omega)]; omega) (ev_bind (ev_eq (spec_BitsOf_eq _)) ?_)))
      rw [w64 (x := bitsOf _) (by omega) (by have := hw.2.2.2; have := two_pow_le (a := (widthOf (47 - (d : Int))).toNat) (b := 7) (by omega); omega)]
      rw [spec_head x n (widthOf (47 - d)) hx hn (by omega) h]
      have hh : hit x n (47 - d) ↔ x / 2 ^ (n - widthOf (47 - d)).toNat % 2 ^ (widthOf (47 - d)).toNat = bitsOf (47 - d) := ⟨fun k => k.2, fun k => ⟨h, k⟩⟩
      by_cases h' : hit x n (47 - d)
      · rw [if_pos h']; exact ev_pos (hh.1 h') (ev_ret rfl)
      · rw [if_neg h']; exact ev_neg (fun k => h' (hh.2 k)) (ih (by omega))
    · rw [if_neg (fun k => h k.1)]
      exact ev_pos (by omega) (ih (by omega))
theorem spec_Decode_ev (x n : Int) (hx : 0 ≤ x ∧ x ≤ 4294967295) : Ev (fun k => spec_Decode.f k x n) (dcode x n) := by
  refine ev_bind (ev_eq (spec_l01In_eq _ _ _)) ?_
  unfold dcode
  by_cases h : 1 ≤ n ∧ n ≤ 32
  · rw [if_pos h]; exact ev_pos (decide_eq_true h) (spec_Decode_l0 x n hx h 48 (by omega))
  · rw [if_neg h]; exact ev_neg (by simp only [decide_eq_true_eq]; exact h) (ev_ret rfl)

/-! ### spec_LetterAt -/
theorem spec_LetterAt_eq (k : Int) : spec_LetterAt.f k = some (if 0 ≤ k ∧ k ≤ 47 then bt lettersB k else 0) := by
  unfold spec_LetterAt.f spec_l02All.f
  simp only [spec_l01In_eq, Option.bind_some, decide_eq_true_eq]
  by_cases h : 0 ≤ k ∧ k ≤ 47
  · rw [if_pos h, if_pos h, if_pos h.1, if_pos (by show k < 48; omega)]; rfl
  · rw [if_neg h, if_neg h]

/-! ### spec_UnpackOne -/
theorem spec_UnpackOne_l0 (f : Int) (hf : 0 ≤ f ∧ f < 268435456) (d : Nat) : ∀ (acc : List UInt8) (left : Int), 0 ≤ left → left ≤ 28 → left ≤ 4 * d → acc.length + d ≤ 8 →
    Ev (fun k => spec_UnpackOne.l0 k f (acc.map (fun b => (b.toNat : Int))) left) (toB (acc ++ upk f d left)) := by
  induction d with
  | zero =>
    intro acc left h0 h1 h2 h3
    refine Ev.step (fun k => by rw [spec_UnpackOne.l0]) ?_
    refine ev_neg (by omega) ?_
    refine Ev.step (fun k => by rw [spec_UnpackOne.j1]) ?_
    refine ev_neg (by simp) (ev_ret ?_)
    rw [strOf_map]; simp [upk]
  | succ d ih =>
    intro acc left h0 h1 h2 h3
    rw [upk]
    by_cases hz : left = 0
    · subst hz
      refine Ev.step (fun k => by rw [spec_UnpackOne.l0]) ?_
      refine ev_neg (by omega) ?_
      refine Ev.step (fun k => by rw [spec_UnpackOne.j1]) ?_
      refine ev_neg (by simp) (ev_ret ?_)
      rw [strOf_map, if_pos (by simp)]; simp
    · refine Ev.step (fun k => by rw [spec_UnpackOne.l0]) ?_
      refine ev_pos (by omega) (ev_pos (by rw [wu64 (by omega) (by omega)]; omega) ?_)
      have := two_pow_le (a := left.toNat) (b := 28) (by omega)
      have := two_pow_pos left.toNat
      rw [w64 (x := f) (by omega) (by omega), wu64 (x := left) (by omega) (by omega), shl1_i64 (by omega) (by omega), w64 (by omega) (by omega), and_i64 (by omega) (by omega)]
      by_cases hm : f % 2 ^ left.toNat = 0
      · rw [if_pos hm]
        refine Ev.step (fun k => by rw [spec_UnpackOne.j1]) ?_
        refine ev_neg (by simp [hm]) (ev_ret ?_)
        rw [strOf_map]; simp
      · rw [if_neg hm]
        refine Ev.step (fun k => by rw [spec_UnpackOne.j1]) ?_
        refine ev_pos (by simp [hm]) (ev_bind (spec_Decode_ev f left (by omega)) ?_)
        have hd := dcode_range f left
        by_cases hk : (dcode f left).1 < 1
        · rw [if_pos hk]
          refine ev_pos hk (ev_ret ?_)
          rw [strOf_map]; simp
        · rw [if_neg hk]
          refine ev_neg hk (ev_bind (ev_eq (spec_LetterAt_eq _)) (ev_pos (by simp; omega) ?_))
          rw [if_pos (by omega), bt_letter (by omega) (by omega), w64 (by omega) (by omega), map_snoc]
          refine ev_to (ih (acc ++ [letter (dcode f left).1]) _ (by omega) (by omega) (by omega) (by simp; omega)) ?_
          simp
theorem spec_UnpackOne_ev (f : Int) (hf : 0 ≤ f ∧ f ≤ 4294967295) : Ev (fun k => spec_UnpackOne.f k f) (toB (unpackOne f)) := by
  unfold unpackOne
  by_cases h : f ≥ 268435456
  · rw [if_pos h]; exact ev_pos (by rw [w64 (by omega) (by omega)]; exact h) (ev_ret rfl)
  · rw [if_neg h]
    refine ev_neg (by rw [w64 (by omega) (by omega)]; exact h) ?_
    exact ev_to (spec_UnpackOne_l0 f (by omega) 8 [] 28 (by omega) (by omega) (by omega) (by simp)) (by simp)

/-! ### spec_FieldOk -/
theorem spec_FieldOk_ev (f : Int) (hf : 0 ≤ f ∧ f ≤ 4294967295) : Ev (fun k => spec_FieldOk.f k f) (fieldOk f) := by
  refine ev_bind (spec_UnpackOne_ev f hf) (ev_bind (spec_Pack_ev _) ?_)
  unfold fieldOk
  by_cases h : ((pack (unpackOne f)).length : Int) = 1
  · refine ev_pos h (ev_pos (by omega) (ev_ret ?_))
    obtain ⟨a, ha⟩ := List.length_eq_one_iff.1 (show (pack (unpackOne f)).length = 1 by omega)
    rw [ha]; simp [rd]
    rfl
  · refine ev_neg h (ev_ret ?_)
    rw [decide_eq_false]
    intro e
    rw [e] at h
    simp at h

/-! ### strings_IndexByte -/
theorem strings_IndexByte_eq (b : UInt8) : strings_IndexByte.f lettersB (b.toNat : Int) = some (lo b) := by
  unfold strings_IndexByte.f stringslite_IndexByte.f lo
  simp

/-! ### impl_LetterOf -/
theorem impl_LetterOf_eq (b : UInt8) : impl_LetterOf.f (b.toNat : Int) = some (lo b) := by
  unfold impl_LetterOf.f
  have e : impl_letters.f = some lettersB := rfl
  rw [e]
  simp only [Option.bind_some]
  rw [strings_IndexByte_eq]
  rfl

/-! ### impl_within -/
theorem impl_within_eq (a b c : Int) : impl_within.f a b c = some (decide (b ≤ a ∧ a ≤ c)) := by
  unfold impl_within.f
  by_cases h : b ≤ a
  · rw [if_pos h]; simp [h]
  · rw [if_neg h]; simp [h]

/-! ### impl_NameOk -/
theorem impl_NameOk_l0 (s : ByteArray) (hs : s.size ≤ 1048576) (d : Nat) : ∀ i : Nat, i + d = s.size → Ev (fun k => impl_NameOk.l0 k s (s.size : Int) (i : Int)) ((s.data.toList.drop i).all (fun b => decide (1 ≤ lo b)) && decide (1 ≤ s.size ∧ s.size ≤ 24)) := by
  induction d with
  | zero =>
    intro i hi
    refine Ev.step (fun k => by rw [impl_NameOk.l0]) ?_
    refine ev_neg (by omega) (ev_bind (ev_eq (impl_within_eq _ _ _)) (ev_ret ?_))
    rw [List.drop_of_length_le (by rw [← size_eq]; omega), List.all_nil, Bool.true_and]
    rw [Bool.eq_iff_iff, decide_eq_true_eq, decide_eq_true_eq]; omega
  | succ d ih =>
    intro i hi
    have hlt : i < s.size := by omega
    refine Ev.step (fun k => by rw [impl_NameOk.l0]) ?_
    refine ev_pos (by omega) (ev_pos (by omega) (ev_pos (by omega) (ev_bind (ev_eq (by rw [bt_at hlt]; exact impl_LetterOf_eq _)) ?_)))
    rw [drop_cons hlt, List.all_cons]
    by_cases h : 1 ≤ lo s[i]
    · refine ev_neg (by omega) ?_
      rw [w64 (by omega) (by omega), show ((i : Int) + 1) = ((i + 1 : Nat) : Int) by omega, decide_eq_true h, Bool.true_and]
      exact ih (i + 1) (by omega)
    · refine ev_pos (by omega) (ev_ret ?_)
      rw [decide_eq_false h, Bool.false_and, Bool.false_and]
theorem impl_NameOk_ev (s : ByteArray) (hs : s.size ≤ 1048576) : Ev (fun k => impl_NameOk.f k s) (okName s.data.toList) := by
  refine ev_to (impl_NameOk_l0 s hs s.size 0 (by omega)) ?_
  unfold okName
  rw [← size_eq, List.drop_zero, Bool.eq_iff_iff]
  simp only [Bool.and_eq_true, decide_eq_true_eq]
  exact ⟨fun h => ⟨h.2, h.1⟩, fun h => ⟨h.2, h.1⟩⟩

/-! ### impl_WidthOf -/
theorem impl_WidthOf_eq (k : Int) : impl_WidthOf.f k = some (widthOf k) := by
  unfold impl_WidthOf.f widthOf
  simp only [impl_within_eq, Option.bind_some, decide_eq_true_eq]
  by_cases h1 : 0 ≤ k ∧ k ≤ 7
  · rw [if_pos h1, if_pos h1]
  rw [if_neg h1, if_neg h1]
  by_cases h2 : 8 ≤ k ∧ k ≤ 15
  · rw [if_pos h2, if_pos h2]
  rw [if_neg h2, if_neg h2]
  by_cases h3 : 16 ≤ k ∧ k ≤ 47
  · rw [if_pos h3, if_pos h3]
  rw [if_neg h3, if_neg h3]

/-! ### impl_BitsOf -/
theorem impl_BitsOf_eq (k : Int) : impl_BitsOf.f k = some (bitsOf k) := by
  unfold impl_BitsOf.f
  simp only [impl_WidthOf_eq, Option.bind_some]
  rcases width_cases k with ⟨e1, e2, h⟩ | ⟨e1, e2, h⟩ | ⟨e1, e2, h⟩ | ⟨e1, e2, h⟩ <;> rw [e1, e2] <;> simp
  · omega
  · omega
  · omega

/-! ### impl_PackOne -/
theorem impl_PackOne_l0 (s : ByteArray) (hs : s.size ≤ 1000000) (hb : ∀ b ∈ s.data.toList, 1 ≤ lo b) (d : Nat) : ∀ (i : Nat) (f left : Int), i + d = s.size → 0 ≤ left → left ≤ 28 → 0 ≤ f → f % 2 ^ left.toNat = 0 → f + 2 ^ left.toNat ≤ 268435456 →
    Ev (fun k => impl_PackOne.l0 k s f left (i : Int) (s.size : Int) (i : Int)) (f + (one (s.data.toList.drop i) left).1, (i : Int) + ((one (s.data.toList.drop i) left).2 : Int)) := by
  induction d with
  | zero =>
    intro i f left hi h0 h1 h2 hm h3
    have := two_pow_pos left.toNat
    refine Ev.step (fun k => by rw [impl_PackOne.l0]) ?_
    refine ev_neg (by omega) (ev_ret ?_)
    rw [List.drop_of_length_le (by rw [← size_eq]; omega), one]
    simp
  | succ d ih =>
    intro i f left hi h0 h1 h2 hm0 h3
    have hlt : i < s.size := by omega
    have hp := two_pow_pos left.toNat
    have hl1 := hb s[i] (by rw [getB hlt]; exact List.getElem_mem _)
    have hlr := lo_range s[i]
    have w := width_in (k := lo s[i]) (by omega) (by omega)
    rw [drop_cons hlt, one]
    refine Ev.step (fun k => by rw [impl_PackOne.l0]) ?_
    refine ev_pos (by omega) (ev_pos (by omega) (ev_pos (by omega) (ev_bind (ev_eq (by rw [bt_at hlt]; exact impl_LetterOf_eq _)) (ev_bind (ev_eq (impl_WidthOf_eq _)) ?_))))
    by_cases hw : widthOf (lo s[i]) > left
    · rw [if_pos hw]
      refine ev_pos hw (ev_ret ?_)
      simp
    · rw [if_neg hw]
      have e : left.toNat = (widthOf (lo s[i])).toNat + (left - widthOf (lo s[i])).toNat := by omega
      have hq := two_pow_pos (left - widthOf (lo s[i])).toNat
      have hm : (bitsOf (lo s[i]) + 1) * 2 ^ (left - widthOf (lo s[i])).toNat ≤ 2 ^ left.toNat := by
        rw [e, Int.pow_add]; exact Int.mul_le_mul_of_nonneg_right (by omega) (by omega)
      rw [Int.add_mul] at hm
      have hn := Int.mul_nonneg w.2.2.1 (show 0 ≤ (2 : Int) ^ (left - widthOf (lo s[i])).toNat by omega)
      refine ev_neg hw (ev_bind (ev_eq (impl_WidthOf_eq _)) (ev_bind (ev_eq (impl_BitsOf_eq _)) (ev_pos (by rw [w64 (by omega) (by omega)]; omega) ?_)))
      rw [w64 (x := left - widthOf (lo s[i])) (by omega) (by omega), shl_u32 w.2.2.1 (by omega) (by omega), w64 (by omega) (by omega), show ((i : Int) + 1) = ((i + 1 : Nat) : Int) by omega]
      rw [or_u32 left.toNat (by omega) hm0 (by omega) (by omega) (by omega)]
      refine ev_to (ih (i + 1) _ _ (by omega) (by omega) (by omega) (by omega) ?_ (by omega)) ?_
      · have e2 : (f + bitsOf (lo s[i]) * 2 ^ (left - widthOf (lo s[i])).toNat) = (2 : Int) ^ (left - widthOf (lo s[i])).toNat * (2 ^ (widthOf (lo s[i])).toNat * (f / 2 ^ left.toNat) + bitsOf (lo s[i])) := by
          have h4 := Int.mul_ediv_add_emod f (2 ^ left.toNat)
          rw [hm0, e, Int.pow_add] at h4
          rw [Int.mul_add, Int.mul_comm (bitsOf _), e, Int.pow_add]
          rw [← Int.mul_assoc, Int.mul_comm (2 ^ (left - widthOf (lo s[i])).toNat) (2 ^ (widthOf (lo s[i])).toNat)]
          omega
        rw [e2, Int.mul_emod_right]
      · simp only [Prod.mk.injEq]
        constructor <;> omega
theorem impl_PackOne_ev (l : List UInt8) (hl : l.length ≤ 1048576) : Ev (fun k => impl_PackOne.f k (toB l)) (if okName l = true then ((one l 28).1, ((one l 28).2 : Int)) else (0, 0)) := by
  refine ev_bind (impl_NameOk_ev (toB l) (by rw [toB_size]; omega)) ?_
  rw [toB_data]
  by_cases h : okName l = true
  · rw [if_pos h]
    obtain ⟨h1, h2, h3⟩ := (okName_iff l).1 h
    refine ev_pos h (ev_to (impl_PackOne_l0 (toB l) (by rw [toB_size]; omega) h3 l.length 0 0 28 (by rw [toB_size]; omega) (by omega) (by omega) (by omega) (by simp) (by decide)) ?_)
    rw [toB_data]; simp
  · rw [if_neg h]
    exact ev_neg h (ev_ret rfl)

/-! ### impl_Pack -/
theorem impl_Pack_l0 (n : Nat) : ∀ (l : List UInt8) (out : List Int), l.length ≤ n → n ≤ 24 → (∀ b ∈ l, 1 ≤ lo b) → out.length + l.length ≤ 1000000 → Ev (fun k => impl_Pack.l0 k (toB l) out) (out ++ packF l.length l) := by
  have stop : ∀ out : List Int, Ev (fun k => impl_Pack.l0 k (toB []) out) (out ++ packF 0 []) := by
    intro out
    refine Ev.step (fun k => by rw [impl_Pack.l0]) ?_
    refine ev_bind (impl_NameOk_ev _ (by decide)) (ev_neg (by decide) (ev_ret ?_))
    simp [packF]
  induction n with
  | zero =>
    intro l out hl hn hb ho
    have : l = [] := List.eq_nil_of_length_eq_zero (by omega)
    subst this
    exact stop out
  | succ n ih =>
    intro l out hl hn hb ho
    by_cases h : l = []
    · subst h; exact stop out
    · have h1 := one_pos h (left := 28) (by omega)
      have h2 := one_range l 28 (by omega) (by omega) hb
      have hok : okName l = true := (okName_iff l).2 ⟨List.length_pos_iff.2 h, by omega, hb⟩
      have hone := impl_PackOne_ev l (by omega)
      rw [if_pos hok] at hone
      refine Ev.step (fun k => by rw [impl_Pack.l0]) ?_
      refine ev_bind (impl_NameOk_ev _ (by rw [toB_size]; omega)) (ev_pos (by rw [toB_data]; exact hok) (ev_bind hone (ev_pos (by omega) (ev_pos (by simp only; omega) (ev_pos (by rw [toB_size]; simp only; omega) ?_)))))
      rw [packF_step h, extract_eq, toB_data, toB_size, List.take_of_length_le (by omega)]
      simp only [Int.toNat_natCast]
      refine ev_to (ih (l.drop (one l 28).2) (out ++ [(one l 28).1]) (by rw [List.length_drop]; omega) (by omega) (fun b hb' => hb b (List.mem_of_mem_drop hb')) (by simp only [List.length_append, List.length_drop, List.length_cons, List.length_nil]; omega)) ?_
      simp
theorem impl_Pack_ev (l : List UInt8) (hl : l.length ≤ 1048576) : Ev (fun k => impl_Pack.f k (toB l)) (pack l) := by
  unfold pack
  by_cases h : okName l = true
  · rw [if_pos h]
    obtain ⟨h1, h2, h3⟩ := (okName_iff l).1 h
    exact impl_Pack_l0 l.length l [] (by omega) h2 h3 (by simp; omega)
  · rw [if_neg h]
    refine Ev.step (g := fun k => impl_Pack.l0 k (toB l) []) (fun k => by rw [impl_Pack.l0]) ?_
    exact ev_bind (impl_NameOk_ev _ (by rw [toB_size]; omega)) (ev_neg (by rw [toB_data]; exact h) (ev_ret rfl))

/-! ### impl_Decode -/
theorem impl_Decode_l0 (x n : Int) (hx : 0 ≤ x ∧ x ≤ 4294967295) (hn : 1 ≤ n ∧ n ≤ 32) (d : Nat) (hd : d ≤ 48) : Ev (fun k => impl_Decode.l0 k x n (48 - (d : Int))) (decFrom x n d) := by
  induction d with
  | zero =>
    refine Ev.step (fun k => by rw [impl_Decode.l0]) ?_
    refine ev_neg (by omega) (ev_ret ?_)
    rfl
  | succ d ih =>
    refine Ev.step (fun k => by rw [impl_Decode.l0]) ?_
    refine ev_pos (by omega) (ev_bind (ev_eq (impl_WidthOf_eq _)) ?_)
    have e : (48 : Int) - ((d + 1 : Nat) : Int) = 47 - d := by omega
    have hw := width_in (k := 47 - (d : Int)) (by omega) (by omega)
    rw [e, decFrom, w64 (x := 47 - (d : Int) + 1) (by omega) (by omega), show ((47 : Int) - d + 1) = 48 - d by omega]
    by_cases h : widthOf (47 - d) ≤ n
    · refine ev_pos h (ev_pos (by rw [w64 (by omega) (by omega)]; omega) (ev_pos (by omega) (ev_bind (ev_eq (impl_BitsOf_eq _)) ?_)))
      rw [impl_head x n (widthOf (47 - d)) hx hn (by omega) h]
      have hh : hit x n (47 - d) ↔ x / 2 ^ (n - widthOf (47 - d)).toNat % 2 ^ (widthOf (47 - d)).toNat = bitsOf (47 - d) := ⟨fun k => k.2, fun k => ⟨h, k⟩⟩
      by_cases h' : hit x n (47 - d)
      · rw [if_pos h']; exact ev_pos (hh.1 h') (ev_ret rfl)
      · rw [if_neg h']; exact ev_neg (fun k => h' (hh.2 k)) (ih (by omega))
    · rw [if_neg (fun k => h k.1)]
      exact ev_neg h (ih (by omega))
theorem impl_Decode_ev (x n : Int) (hx : 0 ≤ x ∧ x ≤ 4294967295) : Ev (fun k => impl_Decode.f k x n) (dcode x n) := by
  refine ev_bind (ev_eq (impl_within_eq _ _ _)) ?_
  unfold dcode
  by_cases h : 1 ≤ n ∧ n ≤ 32
  · rw [if_pos h]; exact ev_pos (decide_eq_true h) (impl_Decode_l0 x n hx h 48 (by omega))
  · rw [if_neg h]; exact ev_neg (by simp only [decide_eq_true_eq]; exact h) (ev_ret rfl)

/-! ### impl_LetterAt -/
theorem impl_LetterAt_eq (k : Int) : impl_LetterAt.f k = some (if 0 ≤ k ∧ k ≤ 47 then bt lettersB k else 0) := by
  unfold impl_LetterAt.f impl_letters.f
  simp only [impl_within_eq, Option.bind_some, decide_eq_true_eq]
  by_cases h : 0 ≤ k ∧ k ≤ 47
  · rw [if_pos h, if_pos h, if_pos h.1, if_pos (by show k < 48; omega)]; rfl
  · rw [if_neg h, if_neg h]

/-! ### impl_UnpackOne -/
theorem impl_UnpackOne_l0 (f : Int) (hf : 0 ≤ f ∧ f < 268435456) (d : Nat) : ∀ (acc : List UInt8) (left : Int), 0 ≤ left → left ≤ 28 → left ≤ 4 * d → acc.length + d ≤ 8 →
    Ev (fun k => impl_UnpackOne.l0 k f (acc.map (fun b => (b.toNat : Int))) left) (toB (acc ++ upk f d left)) := by
  have stop : ∀ (acc : List UInt8) (left : Int), 0 ≤ left → left ≤ 28 → f % 2 ^ left.toNat = 0 → Ev (fun k => impl_UnpackOne.l0 k f (acc.map (fun b => (b.toNat : Int))) left) (toB acc) := by
    intro acc left h0 h1 hz
    refine Ev.step (fun k => by rw [impl_UnpackOne.l0]) ?_
    refine ev_pos h0 (ev_pos ?_ (ev_ret (strOf_map acc)))
    have := two_pow_le (a := left.toNat) (b := 28) (by omega)
    have := two_pow_pos left.toNat
    rw [shl1_u32 (by omega) (by omega), show ((2 : Int) ^ left.toNat - 1) % 4294967296 = 2 ^ left.toNat - 1 by omega, and_u32 (by omega) (by omega)]
    exact hz
  induction d with
  | zero =>
    intro acc left h0 h1 h2 h3
    have : left = 0 := by omega
    subst this
    rw [upk, List.append_nil]
    exact stop acc 0 (by omega) (by omega) (by simp)
  | succ d ih =>
    intro acc left h0 h1 h2 h3
    rw [upk]
    by_cases hm : f % 2 ^ left.toNat = 0
    · rw [if_pos hm, List.append_nil]
      exact stop acc left h0 h1 hm
    · rw [if_neg hm]
      refine Ev.step (fun k => by rw [impl_UnpackOne.l0]) ?_
      have := two_pow_le (a := left.toNat) (b := 28) (by omega)
      have := two_pow_pos left.toNat
      refine ev_pos h0 (ev_neg ?_ ?_)
      · rw [shl1_u32 (by omega) (by omega), show ((2 : Int) ^ left.toNat - 1) % 4294967296 = 2 ^ left.toNat - 1 by omega, and_u32 (by omega) (by omega)]
        exact hm
      refine ev_bind (impl_Decode_ev f left (by omega)) ?_
      have hd := dcode_range f left
      by_cases hk : (dcode f left).1 < 1
      · rw [if_pos hk]
        refine ev_pos hk (ev_ret ?_)
        rw [strOf_map]; simp
      · rw [if_neg hk]
        refine ev_neg hk (ev_bind (ev_eq (impl_LetterAt_eq _)) (ev_pos (by simp; omega) ?_))
        rw [if_pos (by omega), bt_letter (by omega) (by omega), w64 (by omega) (by omega), map_snoc]
        refine ev_to (ih (acc ++ [letter (dcode f left).1]) _ (by omega) (by omega) (by omega) (by simp; omega)) ?_
        simp
theorem impl_UnpackOne_ev (f : Int) (hf : 0 ≤ f ∧ f ≤ 4294967295) : Ev (fun k => impl_UnpackOne.f k f) (toB (unpackOne f)) := by
  unfold unpackOne
  by_cases h : f ≥ 268435456
  · rw [if_pos h]; exact ev_pos h (ev_ret rfl)
  · rw [if_neg h]
    refine ev_neg h ?_
    exact ev_to (impl_UnpackOne_l0 f (by omega) 8 [] 28 (by omega) (by omega) (by omega) (by simp)) (by simp)

/-! ### slices_Equal_uint32_uint32 -/
theorem slices_Equal_u32_l0 (a b : List Int) (hl : a.length ≤ 70368744177664) (he : a.length = b.length) (d : Nat) : ∀ (i : Nat), i + d = a.length → Ev (fun k => slices_Equal_uint32_uint32.l0 k a b (a.length : Int) (i : Int)) (decide (a.drop i = b.drop i)) := by
  induction d with
  | zero =>
    intro i hi
    refine Ev.step (fun k => by rw [slices_Equal_uint32_uint32.l0]) ?_
    refine ev_neg (by omega) (ev_ret ?_)
    rw [List.drop_of_length_le (by omega), List.drop_of_length_le (by omega)]; simp
  | succ d ih =>
    intro i hi
    refine Ev.step (fun k => by rw [slices_Equal_uint32_uint32.l0]) ?_
    refine ev_pos (by omega) (ev_pos (by omega) (ev_pos (by omega) (ev_pos (by omega) ?_)))
    rw [rd_nat (by omega), rd_nat (by omega), List.drop_eq_getElem_cons (by omega : i < a.length), List.drop_eq_getElem_cons (by omega : i < b.length)]
    by_cases h : a[i] = b[i]
    · refine ev_pos h ?_
      rw [w64 (by omega) (by omega), show ((i : Int) + 1) = ((i + 1 : Nat) : Int) by omega]
      exact ev_to (ih (i + 1) (by omega)) (dec_cons h)
    · exact ev_neg h (ev_ret (dec_cons_ne h))
theorem slices_Equal_u32_ev (a b : List Int) (hl : a.length ≤ 70368744177664) : Ev (fun k => slices_Equal_uint32_uint32.f k a b) (decide (a = b)) := by
  by_cases h : a.length = b.length
  · exact ev_pos (by omega) (ev_to (slices_Equal_u32_l0 a b hl h a.length 0 (by omega)) (by simp))
  · refine ev_neg (by omega) (ev_ret ?_)
    rw [decide_eq_false]
    intro e
    exact h (by rw [e])

/-! ### impl_FieldOk -/
theorem impl_FieldOk_ev (f : Int) (hf : 0 ≤ f ∧ f ≤ 4294967295) : Ev (fun k => impl_FieldOk.f k f) (fieldOk f) := by
  have hu := unpackOne_length f
  have hp := pack_length (unpackOne f)
  exact ev_bind (impl_UnpackOne_ev f hf) (ev_bind (impl_Pack_ev _ (by omega)) (ev_bind (slices_Equal_u32_ev _ _ (by omega)) (ev_ret rfl)))

/-! ### laws_big -/
theorem laws_big_eq (l : List Int) : laws_big.f l = some (decide ((l.length : Int) > 1048576)) := rfl

/-! ### spec_l03Same -/
theorem spec_l03Same_l0 (a b : List Int) (hl : a.length ≤ 70368744177664) (he : a.length = b.length) (d : Nat) : ∀ (i : Nat), i + d = a.length → Ev (fun k => spec_l03Same.l0 k a b (i : Int)) (decide (a.drop i = b.drop i)) := by
  induction d with
  | zero =>
    intro i hi
    refine Ev.step (fun k => by rw [spec_l03Same.l0]) ?_
    refine ev_neg (by omega) (ev_ret ?_)
    rw [List.drop_of_length_le (by omega), List.drop_of_length_le (by omega)]; simp
  | succ d ih =>
    intro i hi
    refine Ev.step (fun k => by rw [spec_l03Same.l0]) ?_
    refine ev_pos (by omega) (ev_pos (by omega) (ev_pos (by omega) ?_))
    rw [rd_nat (by omega), rd_nat (by omega), List.drop_eq_getElem_cons (by omega : i < a.length), List.drop_eq_getElem_cons (by omega : i < b.length)]
    by_cases h : a[i] = b[i]
    · refine ev_pos h ?_
      rw [w64 (by omega) (by omega), show ((i : Int) + 1) = ((i + 1 : Nat) : Int) by omega]
      exact ev_to (ih (i + 1) (by omega)) (dec_cons h)
    · exact ev_neg h (ev_ret (dec_cons_ne h))
theorem spec_l03Same_ev (a b : List Int) (hl : a.length ≤ 70368744177664) : Ev (fun k => spec_l03Same.f k a b) (decide (a = b)) := by
  by_cases h : a.length = b.length
  · exact ev_pos (by omega) (ev_to (spec_l03Same_l0 a b hl h a.length 0 (by omega)) (by simp))
  · refine ev_neg (by omega) (ev_ret ?_)
    rw [decide_eq_false]
    intro e
    exact h (by rw [e])

/-! ### spec_Unpack -/
theorem spec_Unpack_l0 (list : List Int) (hl : list.length ≤ 24) (hr : ∀ x ∈ list, 0 ≤ x ∧ x ≤ 4294967295) (d : Nat) : ∀ (i : Nat) (acc : List UInt8), i + d = list.length → acc.length ≤ 8 * i →
    Ev (fun k => spec_Unpack.l0 k list (toB acc) (i : Int)) (if okName (acc ++ unpackAll (list.drop i)) = true ∧ pack (acc ++ unpackAll (list.drop i)) = list then (toB (acc ++ unpackAll (list.drop i)), true) else (toB [], false)) := by
  induction d with
  | zero =>
    intro i acc hi ha
    rw [List.drop_of_length_le (by omega)]
    refine Ev.step (fun k => by rw [spec_Unpack.l0]) ?_
    refine ev_neg (by omega) (ev_bind (spec_NameOk_ev _) ?_)
    rw [toB_data, show acc ++ unpackAll [] = acc by simp [unpackAll]]
    by_cases h : okName acc = true
    · refine ev_pos h (ev_bind (spec_Pack_ev acc) (ev_bind (spec_l03Same_ev _ _ ?_) ?_))
      · have := pack_length acc; omega
      · by_cases h2 : pack acc = list
        · refine ev_pos (by simpa using h2) ?_
          rw [if_pos ⟨h, h2⟩]
          exact ev_ret rfl
        · refine ev_neg (by simpa using h2) ?_
          rw [if_neg (fun x => h2 x.2)]
          exact ev_ret rfl
    · refine ev_neg h ?_
      rw [if_neg (fun x => h x.1)]
      exact ev_ret rfl
  | succ d ih =>
    intro i acc hi ha
    have hm := hr list[i] (List.getElem_mem _)
    have hu := unpackOne_length list[i]
    refine Ev.step (fun k => by rw [spec_Unpack.l0]) ?_
    refine ev_pos (by omega) (ev_pos (by omega) (ev_bind (by rw [rd_nat (by omega)]; exact spec_UnpackOne_ev _ hm) (ev_pos (by rw [toB_size, toB_size]; omega) ?_)))
    rw [w64 (by omega) (by omega), show ((i : Int) + 1) = ((i + 1 : Nat) : Int) by omega, toB_append]
    refine ev_to (ih (i + 1) _ (by omega) (by rw [List.length_append]; omega)) ?_
    rw [List.drop_eq_getElem_cons (by omega : i < list.length)]
    simp only [unpackAll, List.flatMap_cons, List.append_assoc]
theorem spec_Unpack_ev (list : List Int) (hr : ∀ x ∈ list, 0 ≤ x ∧ x ≤ 4294967295) : Ev (fun k => spec_Unpack.f k list) (toB (unpack list).1, (unpack list).2) := by
  unfold unpack
  by_cases h : list.length > 24
  · rw [if_pos h]; exact ev_pos (by omega) (ev_ret rfl)
  · rw [if_neg h]
    refine ev_neg (by omega) (ev_to (spec_Unpack_l0 list (by omega) hr list.length 0 [] (by omega) (by simp)) ?_)
    simp only [List.drop_zero, List.nil_append]
    split <;> rfl

/-! ### impl_Unpack -/
theorem impl_Unpack_l0 (list : List Int) (hl : list.length ≤ 24) (hr : ∀ x ∈ list, 0 ≤ x ∧ x ≤ 4294967295) (d : Nat) : ∀ (i : Nat) (acc : List UInt8), i + d = list.length → acc.length ≤ 8 * i →
    Ev (fun k => impl_Unpack.l0 k list (toB acc) list (list.length : Int) (i : Int)) (if okName (acc ++ unpackAll (list.drop i)) = true ∧ pack (acc ++ unpackAll (list.drop i)) = list then (toB (acc ++ unpackAll (list.drop i)), true) else (toB [], false)) := by
  induction d with
  | zero =>
    intro i acc hi ha
    rw [List.drop_of_length_le (by omega)]
    refine Ev.step (fun k => by rw [impl_Unpack.l0]) ?_
    refine ev_neg (by omega) (ev_bind (impl_NameOk_ev _ (by rw [toB_size]; omega)) ?_)
    rw [toB_data, show acc ++ unpackAll [] = acc by simp [unpackAll]]
    by_cases h : okName acc = true
    · refine ev_pos h (ev_bind (impl_Pack_ev acc (by omega)) (ev_bind (slices_Equal_u32_ev _ _ ?_) ?_))
      · have := pack_length acc; omega
      · by_cases h2 : pack acc = list
        · refine ev_pos (by simpa using h2) ?_
          rw [if_pos ⟨h, h2⟩]
          exact ev_ret rfl
        · refine ev_neg (by simpa using h2) ?_
          rw [if_neg (fun x => h2 x.2)]
          exact ev_ret rfl
    · refine ev_neg h ?_
      rw [if_neg (fun x => h x.1)]
      exact ev_ret rfl
  | succ d ih =>
    intro i acc hi ha
    have hm := hr list[i] (List.getElem_mem _)
    have hu := unpackOne_length list[i]
    refine Ev.step (fun k => by rw [impl_Unpack.l0]) ?_
    refine ev_pos (by omega) (ev_pos (by omega) (ev_pos (by omega) (ev_bind (by rw [rd_nat (by omega)]; exact impl_UnpackOne_ev _ hm) (ev_pos (by rw [toB_size, toB_size]; omega) ?_))))
    rw [w64 (by omega) (by omega), show ((i : Int) + 1) = ((i + 1 : Nat) : Int) by omega, toB_append]
    refine ev_to (ih (i + 1) _ (by omega) (by rw [List.length_append]; omega)) ?_
    rw [List.drop_eq_getElem_cons (by omega : i < list.length)]
    simp only [unpackAll, List.flatMap_cons, List.append_assoc]
theorem impl_Unpack_ev (list : List Int) (hr : ∀ x ∈ list, 0 ≤ x ∧ x ≤ 4294967295) : Ev (fun k => impl_Unpack.f k list) (toB (unpack list).1, (unpack list).2) := by
  unfold unpack
  by_cases h : list.length > 24
  · rw [if_pos h]; exact ev_pos (by omega) (ev_ret rfl)
  · rw [if_neg h]
    refine ev_neg (by omega) (ev_to (impl_Unpack_l0 list (by omega) hr list.length 0 [] (by omega) (by simp)) ?_)
    simp only [List.drop_zero, List.nil_append]
    split <;> rfl

/-! ### laws_sameCells -/
theorem laws_sameCells_l0 (a b : List Int) (hl : a.length ≤ 70368744177664) (he : a.length = b.length) (d : Nat) : ∀ (i : Nat), i + d = a.length → Ev (fun k => laws_sameCells.l0 k a b (i : Int)) (decide (a.drop i = b.drop i)) := by
  induction d with
  | zero =>
    intro i hi
    refine Ev.step (fun k => by rw [laws_sameCells.l0]) ?_
    refine ev_neg (by omega) (ev_ret ?_)
    rw [List.drop_of_length_le (by omega), List.drop_of_length_le (by omega)]; rfl
  | succ d ih =>
    intro i hi
    refine Ev.step (fun k => by rw [laws_sameCells.l0]) ?_
    refine ev_pos (by omega) (ev_pos (by omega) (ev_pos (by omega) ?_))
    rw [rd_nat (by omega), rd_nat (by omega), w64 (by omega) (by omega), show ((i : Int) + 1) = ((i + 1 : Nat) : Int) by omega, List.drop_eq_getElem_cons (by omega : i < a.length), List.drop_eq_getElem_cons (by omega : i < b.length)]
    refine ev_ite (fun h => ev_to (ih (i + 1) (by omega)) (dec_cons h)) (fun h => ev_ret (dec_cons_ne h))
theorem laws_sameCells_ev (a b : List Int) (hl : a.length ≤ 70368744177664) : Ev (fun k => laws_sameCells.f k a b) (decide (a = b)) := by
  by_cases h : a.length = b.length
  · exact ev_pos (by omega) (laws_sameCells_l0 a b hl h a.length 0 (Nat.zero_add _))
  · exact ev_neg (by omega) (ev_ret (decide_eq_false fun e => h (by rw [e])).symm)

/-! ### spec_l01New -/
theorem spec_l01New_l0 (l : List Int) (hl : l.length ≤ 1048576) (d : Nat) : ∀ (i : Nat) (h : Int), i + d = l.length → ∃ h', Ev (fun k => spec_l01New.l0 k l h (i : Int)) (l, 0, h') := by
  induction d with
  | zero =>
    intro i h hi
    refine ⟨h, Ev.step (fun k => by rw [spec_l01New.l0]) ?_⟩
    exact ev_neg (by omega) (ev_ret rfl)
  | succ d ih =>
    intro i h hi
    by_cases h4 : (i : Int) < 4000
    · obtain ⟨h', e⟩ := ih (i + 1) (Go.bits .and .i64 (wrap64 ((wrap64 ((wrap64 (h * 131)) + (wrap64 (rd l i)))) + 7)) 1073741823) (by omega)
      refine ⟨h', Ev.step (fun k => by rw [spec_l01New.l0]) ?_⟩
      refine ev_pos (by omega) (ev_pos h4 (ev_pos (by omega) ?_))
      rw [w64 (x := (i : Int) + 1) (by omega) (by omega), show ((i : Int) + 1) = ((i + 1 : Nat) : Int) by omega]
      exact e
    · refine ⟨h, Ev.step (fun k => by rw [spec_l01New.l0]) ?_⟩
      exact ev_pos (by omega) (ev_neg h4 (ev_ret rfl))
theorem spec_l01New_ev (l : List Int) (hl : l.length ≤ 1048576) : ∃ h, Ev (fun k => spec_l01New.f k l) (l, 0, h) := spec_l01New_l0 l hl l.length 0 _ (by omega)

/-! ### spec_l01Byte -/
theorem spec_l01Byte_eq {b : List Int} {i : Int} (h : Int) (hc : Cur b i) : ∃ r i' h', spec_l01Byte.f b i h = some (r, i', h') ∧ 0 ≤ r ∧ r ≤ 255 ∧ Cur b i' := by
  obtain ⟨c0, c1, c2⟩ := hc
  unfold spec_l01Byte.f
  by_cases hlt : i < (b.length : Int)
  · rw [if_pos hlt, if_pos c1]
    have := and_255 (wrap64 ((Go.bits .and .i64 (Go.bits .xor .i64 ((wrap64 ((wrap64 (h * 6364136223846793005)) + 1442695040888963407)) / 8589934592) ((wrap64 ((wrap64 (h * 6364136223846793005)) + 1442695040888963407)) / 35184372088832)) 255) + (wrap64 (rd b i))))
    exact ⟨_, _, _, rfl, this.1, this.2, c0, by rw [w64 (by omega) (by omega)]; omega, by rw [w64 (by omega) (by omega)]; omega⟩
  · rw [if_neg hlt]
    have := and_255 (Go.bits .xor .i64 ((wrap64 ((wrap64 (h * 6364136223846793005)) + 1442695040888963407)) / 8589934592) ((wrap64 ((wrap64 (h * 6364136223846793005)) + 1442695040888963407)) / 35184372088832))
    exact ⟨_, _, _, rfl, this.1, this.2, c0, c1, c2⟩

/-! ### spec_l01Below -/
theorem spec_l01Below_eq {b : List Int} {i : Int} (h n : Int) (hc : Cur b i) (hn : 0 < n) : ∃ r i' h', spec_l01Below.f b i h n = some (r, i', h') ∧ 0 ≤ r ∧ r < n ∧ Cur b i' := by
  unfold spec_l01Below.f
  rw [if_neg (by omega)]
  by_cases h2 : n ≤ 256
  · obtain ⟨r, i1, h1, e, r0, r1, c1⟩ := spec_l01Byte_eq h hc
    have := tmod_range r0 hn
    rw [if_pos h2, e]
    simp only [Option.bind_some]
    rw [if_neg (by omega)]
    exact ⟨_, _, _, rfl, this.1, this.2, c1⟩
  · obtain ⟨x, i1, h1, e1, x0, x1, c1⟩ := spec_l01Byte_eq h hc
    obtain ⟨y, i2, h2', e2, y0, y1, c2⟩ := spec_l01Byte_eq h1 c1
    obtain ⟨z, i3, h3, e3, z0, z1, c3⟩ := spec_l01Byte_eq h2' c2
    obtain ⟨v, i4, h4, e4, v0, v1, c4⟩ := spec_l01Byte_eq h3 c3
    rw [if_neg h2, e1]
    simp only [Option.bind_some]
    rw [e2]
    simp only [Option.bind_some]
    rw [e3]
    simp only [Option.bind_some]
    rw [e4]
    simp only [Option.bind_some]
    rw [if_neg (by omega)]
    have e5 : (wrap64 ((wrap64 ((wrap64 ((wrap64 (x * 16777216)) + (wrap64 (y * 65536)))) + (wrap64 (z * 256)))) + v)) = x * 16777216 + y * 65536 + z * 256 + v := by
      rw [w64 (x := x * 16777216) (by omega) (by omega), w64 (x := y * 65536) (by omega) (by omega), w64 (x := z * 256) (by omega) (by omega), w64 (x := x * 16777216 + y * 65536) (by omega) (by omega), w64 (x := x * 16777216 + y * 65536 + z * 256) (by omega) (by omega), w64 (by omega) (by omega)]
    rw [e5]
    have := tmod_range (x := x * 16777216 + y * 65536 + z * 256 + v) (by omega) hn
    exact ⟨_, _, _, rfl, this.1, this.2, c4⟩

/-! ### spec_l01Pick -/
theorem spec_l01Pick_eq {b : List Int} {i : Int} (h : Int) (l : List ByteArray) (hc : Cur b i) (hn : 0 < l.length) : ∃ r i' h', spec_l01Pick.f b i h l = some (r, i', h') ∧ r ∈ l ∧ Cur b i' := by
  obtain ⟨r, i', h', e, r0, r1, c⟩ := spec_l01Below_eq h (l.length : Int) hc (by omega)
  unfold spec_l01Pick.f
  rw [e]
  simp only [Option.bind_some]
  rw [if_pos r0, if_pos r1]
  exact ⟨_, _, _, rfl, rdOf_mem r0 r1, c⟩

/-! ### spec_l01Once -/
theorem spec_l01Once_eq {b : List Int} {i : Int} (h n : Int) (hc : Cur b i) (hn : 0 < n) : ∃ r i' h', spec_l01Once.f b i h n = some (r, i', h') ∧ Cur b i' := by
  obtain ⟨r, i', h', e, _, _, c⟩ := spec_l01Below_eq h n hc hn
  unfold spec_l01Once.f
  rw [e]
  exact ⟨_, _, _, rfl, c⟩

/-! ### spec_l02Name -/
theorem spec_l02Name_l0 {b : List Int} (n d : Nat) (hn : n ≤ 9) : ∀ (j : Nat) (acc : List UInt8) (i h : Int), j + d = n → acc.length = j → (∀ c ∈ acc, 1 ≤ lo c) → Cur b i →
    ∃ nm i' h', Ev (fun k => spec_l02Name.l0 k (acc.map (fun b => (b.toNat : Int))) (n : Int) (j : Int) b i h) (toB nm, i', h') ∧ nm.length = n ∧ (∀ c ∈ nm, 1 ≤ lo c) ∧ Cur b i' := by
  induction d with
  | zero =>
    intro j acc i h hj ha hl hc
    refine ⟨acc, i, h, Ev.step (fun k => by rw [spec_l02Name.l0]) ?_, by omega, hl, hc⟩
    exact ev_neg (by omega) (ev_ret (by rw [strOf_map]))
  | succ d ih =>
    intro j acc i h hj ha hl hc
    obtain ⟨r, i1, h1, e, r0, r1, c1⟩ := spec_l01Below_eq h 47 hc (by omega)
    obtain ⟨nm, i', h', ev, q1, q2, q3⟩ := ih (j + 1) (acc ++ [letter (1 + r)]) i1 h1 (by omega) (by simp; omega) (by
      intro c hc'
      rcases List.mem_append.1 hc' with hc' | hc'
      · exact hl c hc'
      · rw [List.mem_singleton] at hc'
        rw [hc', lo_letter (by omega) (by omega)]; omega) c1
    refine ⟨nm, i', h', Ev.step (fun k => by rw [spec_l02Name.l0]) ?_, q1, q2, q3⟩
    refine ev_pos (by omega) (ev_bind (ev_eq e) (ev_bind (ev_eq (spec_LetterAt_eq _)) (ev_pos (by simp; omega) ?_)))
    simp only
    rw [w64 (x := 1 + r) (by omega) (by omega), if_pos (by omega), bt_letter (by omega) (by omega), map_snoc, w64 (x := (j : Int) + 1) (by omega) (by omega), show ((j : Int) + 1) = ((j + 1 : Nat) : Int) by omega]
    exact ev
theorem spec_l02Name_ev {b : List Int} {i : Int} (h : Int) (hc : Cur b i) : ∃ nm i' h', Ev (fun k => spec_l02Name.f k b i h) (toB nm, i', h') ∧ okName nm = true ∧ nm.length ≤ 9 ∧ Cur b i' := by
  obtain ⟨r, i1, h1, e1, c1⟩ := spec_l01Once_eq h 2 hc (by omega)
  cases r with
  | true =>
    obtain ⟨s, i2, h2, e2, m2, c2⟩ := spec_l01Pick_eq h1 (([(⟨#[100, 117, 112]⟩ : ByteArray), (⟨#[111, 118, 101, 114]⟩ : ByteArray), (⟨#[115, 113, 117, 97, 114, 101]⟩ : ByteArray), (⟨#[97, 33]⟩ : ByteArray), (⟨#[50, 42]⟩ : ByteArray), (⟨#[103, 111]⟩ : ByteArray), (⟨#[45, 105, 102]⟩ : ByteArray), (⟨#[59]⟩ : ByteArray), (⟨#[63]⟩ : ByteArray), (⟨#[114, 114, 114, 114, 114, 114, 114]⟩ : ByteArray), (⟨#[114, 116, 111, 101, 97, 110, 105]⟩ : ByteArray), (⟨#[119, 119, 119, 119, 119, 119]⟩ : ByteArray), (⟨#[113, 113, 113, 113, 113]⟩ : ByteArray), (⟨#[120]⟩ : ByteArray)] : List ByteArray)) c1 (by decide)
    have hall : (([(⟨#[100, 117, 112]⟩ : ByteArray), (⟨#[111, 118, 101, 114]⟩ : ByteArray), (⟨#[115, 113, 117, 97, 114, 101]⟩ : ByteArray), (⟨#[97, 33]⟩ : ByteArray), (⟨#[50, 42]⟩ : ByteArray), (⟨#[103, 111]⟩ : ByteArray), (⟨#[45, 105, 102]⟩ : ByteArray), (⟨#[59]⟩ : ByteArray), (⟨#[63]⟩ : ByteArray), (⟨#[114, 114, 114, 114, 114, 114, 114]⟩ : ByteArray), (⟨#[114, 116, 111, 101, 97, 110, 105]⟩ : ByteArray), (⟨#[119, 119, 119, 119, 119, 119]⟩ : ByteArray), (⟨#[113, 113, 113, 113, 113]⟩ : ByteArray), (⟨#[120]⟩ : ByteArray)] : List ByteArray)).all (fun s => okName s.data.toList && decide (s.data.toList.length ≤ 9)) = true := by decide +kernel
    have hs := List.all_eq_true.1 hall s m2
    rw [Bool.and_eq_true, decide_eq_true_eq] at hs
    refine ⟨s.data.toList, i2, h2, ?_, hs.1, hs.2, c2⟩
    exact ev_bind (ev_eq e1) (ev_pos rfl (ev_bind (ev_eq e2) (ev_ret (by rw [toB_self]))))
  | false =>
    obtain ⟨r, i2, h2, e2, r0, r1, c2⟩ := spec_l01Below_eq h1 9 c1 (by omega)
    obtain ⟨nm, i3, h3, e3, q1, q2, q3⟩ := spec_l02Name_l0 (b := b) (1 + r).toNat (1 + r).toNat (by omega) 0 [] i2 h2 (by omega) rfl (by simp) c2
    refine ⟨nm, i3, h3, ?_, (okName_iff nm).2 ⟨by omega, by omega, q2⟩, by omega, q3⟩
    refine ev_bind (ev_eq e1) (ev_neg (by simp) (ev_bind (ev_eq e2) ?_))
    simp only
    rw [w64 (x := 1 + r) (by omega) (by omega), show (1 + r : Int) = (((1 + r).toNat : Nat) : Int) by omega]
    exact e3

/-! ### spec_l03Field -/
theorem spec_l03Field_ev {b : List Int} {i : Int} (h : Int) (hc : Cur b i) : ∃ r i' h', Ev (fun k => spec_l03Field.f k b i h) (r, i', h') ∧ (0 ≤ r ∧ r ≤ 4294967295) ∧ Cur b i' := by
  obtain ⟨nm, i1, h1, e1, o1, l1, c1⟩ := spec_l02Name_ev (b := b) h hc
  have k1 := ((okName_iff nm).1 o1).2.2
  have hone := one_range nm 28 (by omega) (by omega) k1
  simp only [show (28 : Int).toNat = 28 from rfl, show (2 : Int) ^ 28 = 268435456 from by decide] at hone
  have e2 := spec_l03One_ev nm (by omega) k1
  obtain ⟨q, i3, h3, e3, q0, q1, c3⟩ := spec_l01Below_eq h1 6 c1 (by omega)
  by_cases g0 : q = 0
  · obtain ⟨r, i4, h4, e4, r0, r1, c4⟩ := spec_l01Below_eq h3 65536 c3 (by omega)
    obtain ⟨s, i5, h5, e5, s0, s1, c5⟩ := spec_l01Below_eq h4 4096 c4 (by omega)
    exact ⟨_, i5, h5, ev_bind e1 (ev_bind e2 (ev_bind (ev_eq e3) (ev_pos g0 (ev_bind (ev_eq e4) (ev_bind (ev_eq e5) (ev_ret rfl)))))), by simp only; omega, c5⟩
  by_cases g1 : q = 1
  · obtain ⟨r, i4, h4, e4, r0, r1, c4⟩ := spec_l01Below_eq h3 29 c3 (by omega)
    exact ⟨_, i4, h4, ev_bind e1 (ev_bind e2 (ev_bind (ev_eq e3) (ev_neg g0 (ev_pos g1 (ev_bind (ev_eq e4) (ev_pos (by rw [wu64 r0 (by omega)]; exact r0) (ev_ret rfl))))))), xor_u32_range _ _, c4⟩
  · exact ⟨_, i3, h3, ev_bind e1 (ev_bind e2 (ev_bind (ev_eq e3) (ev_neg g0 (ev_neg g1 (ev_ret rfl))))), by simp only; omega, c3⟩

/-! ### spec_DrawUnpack -/
theorem spec_DrawUnpack_ev (l : List Int) (hl : l.length ≤ 1048576) : ∃ r, Ev (fun k => spec_DrawUnpack.f k l) r ∧ r.length ≤ 25 ∧ ∀ x ∈ r, 0 ≤ x ∧ x ≤ 4294967295 := by
  obtain ⟨h, e⟩ := spec_l01New_ev l hl
  obtain ⟨nm, i1, h1, e1, o1, l1, c1⟩ := spec_l02Name_ev (b := l) (i := 0) h ⟨hl, by omega, by omega⟩
  obtain ⟨s, i2, h2, e2, m2, c2⟩ := spec_l01Pick_eq h1 (([(⟨#[]⟩ : ByteArray), (⟨#[115, 113, 117, 97, 114, 101]⟩ : ByteArray), (⟨#[113, 113, 113]⟩ : ByteArray)] : List ByteArray)) c1 (by decide)
  have hall : (([(⟨#[]⟩ : ByteArray), (⟨#[115, 113, 117, 97, 114, 101]⟩ : ByteArray), (⟨#[113, 113, 113]⟩ : ByteArray)] : List ByteArray)).all (fun s => decide (s.data.toList.length ≤ 9)) = true := by decide +kernel
  have hs := List.all_eq_true.1 hall s m2
  rw [decide_eq_true_eq] at hs
  have e3 := spec_Pack_ev (nm ++ s.data.toList)
  have hlen := pack_length (nm ++ s.data.toList)
  have hr : ∀ x ∈ pack (nm ++ s.data.toList), 0 ≤ x ∧ x ≤ 4294967295 := fun x hx => by have := (pack_fields x hx).2; omega
  rw [← toB_append, toB_self] at e3
  generalize pack (nm ++ s.data.toList) = t at e3 hlen hr
  obtain ⟨q, i3, h3, e4, q0, q1, c3⟩ := spec_l01Below_eq h2 6 c2 (by omega)
  have hsz : (toB nm).size + s.size ≤ 9223372036854775807 := by
    rw [toB_size]
    have : s.size = s.data.toList.length := rfl
    omega
  by_cases g0 : q = 0
  · obtain ⟨f, i4, h4, e5, hf, c4⟩ := spec_l03Field_ev h3 c3
    refine ⟨t ++ [f], ev_bind e (ev_bind e1 (ev_bind (ev_eq e2) (ev_pos hsz (ev_bind e3 (ev_bind (ev_eq e4) (ev_pos g0 (ev_bind e5 (ev_pos (by omega) (ev_ret rfl))))))))), by rw [List.length_append, List.length_singleton]; omega, fun x hx => ?_⟩
    rcases List.mem_append.1 hx with hx | hx
    · exact hr x hx
    · rw [List.mem_singleton] at hx; rw [hx]; exact hf
  by_cases g1 : q = 1
  · by_cases hz : (t.length : Int) > 0
    · obtain ⟨f, i4, h4, e5, hf, c4⟩ := spec_l03Field_ev h3 c3
      refine ⟨t.set 0 f, ev_bind e (ev_bind e1 (ev_bind (ev_eq e2) (ev_pos hsz (ev_bind e3 (ev_bind (ev_eq e4) (ev_neg g0 (ev_pos g1 (ev_pos hz (ev_bind e5 (ev_pos (by omega) (ev_ret rfl))))))))))), by rw [List.length_set]; omega, fun x hx => ?_⟩
      rcases List.mem_or_eq_of_mem_set hx with hx | hx
      · exact hr x hx
      · rw [hx]; exact hf
    · exact ⟨t, ev_bind e (ev_bind e1 (ev_bind (ev_eq e2) (ev_pos hsz (ev_bind e3 (ev_bind (ev_eq e4) (ev_neg g0 (ev_pos g1 (ev_neg hz (ev_ret rfl))))))))), by omega, hr⟩
  by_cases g2 : q = 2
  · obtain ⟨f, i4, h4, e5, hf, c4⟩ := spec_l03Field_ev h3 c3
    refine ⟨[f], ev_bind e (ev_bind e1 (ev_bind (ev_eq e2) (ev_pos hsz (ev_bind e3 (ev_bind (ev_eq e4) (ev_neg g0 (ev_neg g1 (ev_pos g2 (ev_bind e5 (ev_ret rfl)))))))))), by simp, fun x hx => ?_⟩
    rw [List.mem_singleton] at hx; rw [hx]; exact hf
  · exact ⟨t, ev_bind e (ev_bind e1 (ev_bind (ev_eq e2) (ev_pos hsz (ev_bind e3 (ev_bind (ev_eq e4) (ev_neg g0 (ev_neg g1 (ev_neg g2 (ev_ret rfl))))))))), by omega, hr⟩

/-! ### spec_DrawFieldOk -/
theorem spec_DrawFieldOk_ev (l : List Int) (hl : l.length ≤ 1048576) : ∃ r, Ev (fun k => spec_DrawFieldOk.f k l) r ∧ 0 ≤ r ∧ r ≤ 4294967295 := by
  obtain ⟨h, e⟩ := spec_l01New_ev l hl
  obtain ⟨r, i', h', e2, p, c⟩ := spec_l03Field_ev (b := l) (i := 0) h ⟨hl, by omega, by omega⟩
  exact ⟨r, ev_bind e (ev_bind e2 (ev_ret rfl)), p⟩

/-! ### FnFields -/
theorem fieldOk_cases {f : Int} (h : fieldOk f = true) : okName (unpackOne f) = true ∧ (one (unpackOne f) 28).1 = f ∧ (one (unpackOne f) 28).2 = (unpackOne f).length := by
  have hp : pack (unpackOne f) = [f] := of_decide_eq_true h
  have hn := okName_of_pack (l := unpackOne f) (by rw [hp]; simp)
  have ho := (okName_iff _).1 hn
  have hne : unpackOne f ≠ [] := by intro e; rw [e] at ho; simp at ho
  have hpk : pack (unpackOne f) = packF (unpackOne f).length (unpackOne f) := if_pos hn
  rw [hpk, packF_step hne] at hp
  have h1 := (List.cons.inj hp).1
  have h2 := (List.cons.inj hp).2
  refine ⟨hn, h1, ?_⟩
  have h3 := (one_range (unpackOne f) 28 (by omega) (by omega) ho.2.2).2.2
  by_cases e : (unpackOne f).drop (one (unpackOne f) 28).2 = []
  · have := congrArg List.length e
    rw [List.length_drop, List.length_nil] at this
    omega
  · rw [packF_step e] at h2
    simp at h2
theorem FnFields : laws_FnFields.Pure := by
  intro l hl hz hw
  refine Ev.rounds (r := true) ?_
  refine ev_bind (ev_eq (laws_big_eq l)) ?_
  by_cases hs : (l.length : Int) > 1048576
  · exact ev_pos (decide_eq_true hs) (ev_ret rfl)
  refine ev_neg (by simpa using hs) ?_
  obtain ⟨t, e, ht, hr⟩ := spec_DrawUnpack_ev l (by omega)
  obtain ⟨f, ef, hf⟩ := spec_DrawFieldOk_ev l (by omega)
  refine ev_bind e (ev_bind (impl_Unpack_ev t hr) (ev_bind (spec_Unpack_ev t hr) (ev_bind ef (ev_neg (by simp) (ev_bind (impl_FieldOk_ev f hf) (ev_bind (spec_FieldOk_ev f hf) ?_))))))
  rw [show (fieldOk f != fieldOk f) = false from by simp]
  have last : Ev (fun k => laws_FnFields.j1 k f false) true := by
    have h8 := unpackOne_length f
    refine Ev.step (fun k => by rw [laws_FnFields.j1]) ?_
    refine ev_neg (by simp) (ev_bind (impl_UnpackOne_ev f hf) (ev_bind (impl_PackOne_ev _ (by omega)) (ev_bind (impl_FieldOk_ev f hf) ?_)))
    by_cases ok : fieldOk f = true
    · obtain ⟨hn, h1, h2⟩ := fieldOk_cases ok
      rw [if_pos hn]
      refine ev_pos ok (ev_pos h1 (ev_bind (impl_UnpackOne_ev f hf) (ev_ret ?_)))
      simp only
      rw [toB_size, h2]; simp
    · exact ev_neg ok (ev_ret rfl)
  refine Ev.step (fun k => by rw [laws_FnFields.j0]) ?_
  refine ev_neg (by simp) ?_
  have hu : unpack t = if t.length > 24 then ([], false) else if okName (unpackAll t) = true ∧ pack (unpackAll t) = t then (unpackAll t, true) else ([], false) := rfl
  by_cases h24 : t.length > 24
  · rw [if_pos h24] at hu
    rw [hu]
    refine ev_neg (by simp) ?_
    rw [show ((toB []).toList != ([] : List UInt8)) = false from by rw [ba_toList]; rfl]
    exact last
  rw [if_neg h24] at hu
  by_cases ho : okName (unpackAll t) = true ∧ pack (unpackAll t) = t
  · rw [if_pos ho] at hu
    rw [hu]
    have h1 := ((okName_iff _).1 ho.1).2.1
    refine ev_pos rfl (ev_bind (impl_Pack_ev (unpackAll t) (by omega)) (ev_bind (laws_sameCells_ev _ _ (by rw [ho.2]; omega)) (ev_pos (decide_eq_true ho.2) last)))
  · rw [if_neg ho] at hu
    rw [hu]
    refine ev_neg (by simp) ?_
    rw [show ((toB []).toList != ([] : List UInt8)) = false from by rw [ba_toList]; rfl]
    exact last

end Go.Proofs.Ytcfihncnendkgaa.Pure
