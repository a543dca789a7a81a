/-
The law FnLetters holds of the printed plain functions, for all arguments that the printed bounds allow.
-/
import Derived.Test.YtmdjagnbbddnhaaQFnLettersx1
import Derived.Test.YtmdjagnbbddnhaaQFnLettersx2
import Derived.Test.YtmdjagnbbddnhaaTools
import Derived.Test.YtmdjagnbbddnhaaLetters
import Derived.Test.YtmdjagnbbddnhaaHeads
import Derived.Test.YtmdjagnbbddnhaaSpots
import Derived.Test.YtmdjagnbbddnhaaNames
import Derived.Test.YtmdjagnbbddnhaaDraws
import Derived.Test.YtmdjagnbbddnhaaRound
namespace Go.Proofs.Ytmdjagnbbddnhaa.Pure
open Go.RowKit Go.Proofs.Ytmdjagnbbddnhaa.QFnLetters Go.Proofs.YtmdjagnbbddnhaaW.PrintWords Go.Proofs.YtmdjagnbbddnhaaW.PrintLast Go.Proofs.YtmdjagnbbddnhaaW.PrintMore Go.Proofs.Ytmdjagnbbddnhaa.Tools Go.Proofs.Ytmdjagnbbddnhaa.Plain
set_option linter.unusedVariables false

/-! ### laws_big -/
theorem laws_big_eq (l : List Int) : laws_big.f l = some (decide ((l.length : Int) > 1048576)) := rfl

/-! ### spec_l01New -/
theorem spec_l01New_l0 (l : List Int) (hl : l.length ≤ 1048576) (d : Nat) : ∀ (i : Nat) (h : Int), i + d = l.length → ∃ h', Ev (fun k => spec_l01New.l0 k l h (i : Int)) (l, 0, h') := by
  induction d with
  | zero =>
    intro i h hi
    refine ⟨h, Ev.step (fun k => by rw [spec_l01New.l0]) ?_⟩
    exact ev_neg (by omega) (ev_ret rfl)
  | succ d ih =>
    intro i h hi
    by_cases h4 : (i : Int) < 4000
    · obtain ⟨h', e⟩ := ih (i + 1) (Go.bits .and .i64 (wrap64 ((wrap64 ((wrap64 (h * 131)) + (wrap64 (rd l i)))) + 7)) 1073741823) (by omega)
      refine ⟨h', Ev.step (fun k => by rw [spec_l01New.l0]) ?_⟩
      refine ev_pos (by omega) (ev_pos h4 (ev_pos (by omega) ?_))
      rw [w64 (x := (i : Int) + 1) (by omega) (by omega), show ((i : Int) + 1) = ((i + 1 : Nat) : Int) by omega]
      exact e
    · refine ⟨h, Ev.step (fun k => by rw [spec_l01New.l0]) ?_⟩
      exact ev_pos (by omega) (ev_neg h4 (ev_ret rfl))
theorem spec_l01New_ev (l : List Int) (hl : l.length ≤ 1048576) : ∃ h, Ev (fun k => spec_l01New.f k l) (l, 0, h) := spec_l01New_l0 l hl l.length 0 _ (by omega)

/-! ### spec_l01Byte -/
theorem spec_l01Byte_eq {b : List Int} {i : Int} (h : Int) (hc : Cur b i) : ∃ r i' h', spec_l01Byte.f b i h = some (r, i', h') ∧ 0 ≤ r ∧ r ≤ 255 ∧ Cur b i' := by
  obtain ⟨c0, c1, c2⟩ := hc
  unfold spec_l01Byte.f
  by_cases hlt : i < (b.length : Int)
  · rw [if_pos hlt, if_pos c1]
    have := and_255 (wrap64 ((Go.bits .and .i64 (Go.bits .xor .i64 ((wrap64 ((wrap64 (h * 6364136223846793005)) + 1442695040888963407)) / 8589934592) ((wrap64 ((wrap64 (h * 6364136223846793005)) + 1442695040888963407)) / 35184372088832)) 255) + (wrap64 (rd b i))))
    exact ⟨_, _, _, rfl, this.1, this.2, c0, by rw [w64 (by omega) (by omega)]; omega, by rw [w64 (by omega) (by omega)]; omega⟩
  · rw [if_neg hlt]
    have := and_255 (Go.bits .xor .i64 ((wrap64 ((wrap64 (h * 6364136223846793005)) + 1442695040888963407)) / 8589934592) ((wrap64 ((wrap64 (h * 6364136223846793005)) + 1442695040888963407)) / 35184372088832))
    exact ⟨_, _, _, rfl, this.1, this.2, c0, c1, c2⟩

/-! ### spec_l01Below -/
theorem spec_l01Below_eq {b : List Int} {i : Int} (h n : Int) (hc : Cur b i) (hn : 0 < n) : ∃ r i' h', spec_l01Below.f b i h n = some (r, i', h') ∧ 0 ≤ r ∧ r < n ∧ Cur b i' := by
  unfold spec_l01Below.f
  rw [if_neg (by omega)]
  by_cases h2 : n ≤ 256
  · obtain ⟨r, i1, h1, e, r0, r1, c1⟩ := spec_l01Byte_eq h hc
    have := tmod_range r0 hn
    rw [if_pos h2, e]
    simp only [Option.bind_some]
    rw [if_neg (by omega)]
    exact ⟨_, _, _, rfl, this.1, this.2, c1⟩
  · obtain ⟨x, i1, h1, e1, x0, x1, c1⟩ := spec_l01Byte_eq h hc
    obtain ⟨y, i2, h2', e2, y0, y1, c2⟩ := spec_l01Byte_eq h1 c1
    obtain ⟨z, i3, h3, e3, z0, z1, c3⟩ := spec_l01Byte_eq h2' c2
    obtain ⟨v, i4, h4, e4, v0, v1, c4⟩ := spec_l01Byte_eq h3 c3
    rw [if_neg h2, e1]
    simp only [Option.bind_some]
    rw [e2]
    simp only [Option.bind_some]
    rw [e3]
    simp only [Option.bind_some]
    rw [e4]
    simp only [Option.bind_some]
    rw [if_neg (by omega)]
    have e5 : (wrap64 ((wrap64 ((wrap64 ((wrap64 (x * 16777216)) + (wrap64 (y * 65536)))) + (wrap64 (z * 256)))) + v)) = x * 16777216 + y * 65536 + z * 256 + v := by
      rw [w64 (x := x * 16777216) (by omega) (by omega), w64 (x := y * 65536) (by omega) (by omega), w64 (x := z * 256) (by omega) (by omega), w64 (x := x * 16777216 + y * 65536) (by omega) (by omega), w64 (x := x * 16777216 + y * 65536 + z * 256) (by omega) (by omega), w64 (by omega) (by omega)]
    rw [e5]
    have := tmod_range (x := x * 16777216 + y * 65536 + z * 256 + v) (by omega) hn
    exact ⟨_, _, _, rfl, this.1, this.2, c4⟩

/-! ### spec_DrawLetterAt -/
theorem spec_DrawLetterAt_ev (l : List Int) (hl : l.length ≤ 1048576) : ∃ r, Ev (fun k => spec_DrawLetterAt.f k l) r ∧ -2 ≤ r ∧ r ≤ 49 := by
  obtain ⟨h, e⟩ := spec_l01New_ev l hl
  obtain ⟨r, i', h', e2, r0, r1, c⟩ := spec_l01Below_eq (b := l) (i := 0) h 52 ⟨hl, by omega, by omega⟩ (by omega)
  refine ⟨wrap64 (r - 2), ev_bind e (ev_bind (ev_eq e2) (ev_ret rfl)), ?_⟩
  rw [w64 (by omega) (by omega)]; omega

/-! ### impl_within -/
theorem impl_within_eq (a b c : Int) : impl_within.f a b c = some (decide (b ≤ a ∧ a ≤ c)) := by
  unfold impl_within.f
  by_cases h : b ≤ a
  · rw [if_pos h]; simp [h]
  · rw [if_neg h]; simp [h]

/-! ### impl_LetterAt -/
theorem impl_LetterAt_eq (k : Int) : impl_LetterAt.f k = some (if 0 ≤ k ∧ k ≤ 47 then bt lettersB k else 0) := by
  unfold impl_LetterAt.f impl_letters.f
  simp only [impl_within_eq, Option.bind_some, decide_eq_true_eq]
  by_cases h : 0 ≤ k ∧ k ≤ 47
  · rw [if_pos h, if_pos h, if_pos h.1, if_pos (by show k < 48; omega)]; rfl
  · rw [if_neg h, if_neg h]

/-! ### impl_WidthOf -/
theorem impl_WidthOf_eq (k : Int) : impl_WidthOf.f k = some (widthOf k) := by
  unfold impl_WidthOf.f widthOf
  simp only [impl_within_eq, Option.bind_some, decide_eq_true_eq]
  by_cases h1 : 0 ≤ k ∧ k ≤ 7
  · rw [if_pos h1, if_pos h1]
  rw [if_neg h1, if_neg h1]
  by_cases h2 : 8 ≤ k ∧ k ≤ 15
  · rw [if_pos h2, if_pos h2]
  rw [if_neg h2, if_neg h2]
  by_cases h3 : 16 ≤ k ∧ k ≤ 47
  · rw [if_pos h3, if_pos h3]
  rw [if_neg h3, if_neg h3]

/-! ### laws_at -/
theorem laws_at_eq (l : List Int) (hl : l.length ≤ 1048576) (hb : ∀ x ∈ l, 0 ≤ x ∧ x ≤ 255) (i : Int) (hi : 0 ≤ i ∧ i ≤ 100) : ∃ v, laws_at.f l i = some v ∧ 0 ≤ v ∧ v ≤ 255 := by
  unfold laws_at.f
  by_cases h : i < (l.length : Int)
  · have := hb (rd l i) (rd_mem hi.1 h)
    rw [if_pos h, if_pos hi.1, w64 (by omega) (by omega)]
    exact ⟨_, rfl, this⟩
  · rw [if_neg h, w64 (x := i * 7) (by omega) (by omega), w64 (x := i * 7 + (l.length : Int)) (by omega) (by omega)]
    have := tmod_range (x := i * 7 + (l.length : Int)) (n := 256) (by omega) (by omega)
    exact ⟨_, rfl, by omega⟩

/-! ### impl_BitsOf -/
theorem impl_BitsOf_eq (k : Int) : impl_BitsOf.f k = some (bitsOf k) := by
  unfold impl_BitsOf.f
  simp only [impl_WidthOf_eq, Option.bind_some]
  rcases width_cases k with ⟨e1, e2, h⟩ | ⟨e1, e2, h⟩ | ⟨e1, e2, h⟩ | ⟨e1, e2, h⟩ <;> rw [e1, e2] <;> simp
  · omega
  · omega
  · omega

/-! ### impl_Decode -/
theorem impl_Decode_l0 (x n : Int) (hx : 0 ≤ x ∧ x ≤ 4294967295) (hn : 1 ≤ n ∧ n ≤ 32) (d : Nat) (hd : d ≤ 48) : Ev (fun k => impl_Decode.l0 k x n (48 - (d : Int))) (decFrom x n d) := by
  induction d with
  | zero =>
    refine Ev.step (fun k => by rw [impl_Decode.l0]) ?_
    refine ev_neg (by omega) (ev_ret ?_)
    rfl
  | succ d ih =>
    refine Ev.step (fun k => by rw [impl_Decode.l0]) ?_
    refine ev_pos (by omega) (ev_bind (ev_eq (impl_WidthOf_eq _)) ?_)
    have e : (48 : Int) - ((d + 1 : Nat) : Int) = 47 - d := by omega
    have hw := width_in (k := 47 - (d : Int)) (by omega) (by omega)
    rw [e, decFrom, w64 (x := 47 - (d : Int) + 1) (by omega) (by omega), show ((47 : Int) - d + 1) = 48 - d by omega]
    by_cases h : widthOf (47 - d) ≤ n
    · refine ev_pos h (ev_pos (by rw [w64 (by omega) (by omega)]; omega) (ev_pos (by omega) (ev_bind (ev_eq (impl_BitsOf_eq _)) ?_)))
      rw [impl_head x n (widthOf (47 - d)) hx hn (by omega) h]
      have hh : hit x n (47 - d) ↔ x / 2 ^ (n - widthOf (47 - d)).toNat % 2 ^ (widthOf (47 - d)).toNat = bitsOf (47 - d) := ⟨fun k => k.2, fun k => ⟨h, k⟩⟩
      by_cases h' : hit x n (47 - d)
      · rw [if_pos h']; exact ev_pos (hh.1 h') (ev_ret rfl)
      · rw [if_neg h']; exact ev_neg (fun k => h' (hh.2 k)) (ih (by omega))
    · rw [if_neg (fun k => h k.1)]
      exact ev_neg h (ih (by omega))
theorem impl_Decode_ev (x n : Int) (hx : 0 ≤ x ∧ x ≤ 4294967295) : Ev (fun k => impl_Decode.f k x n) (dcode x n) := by
  refine ev_bind (ev_eq (impl_within_eq _ _ _)) ?_
  unfold dcode
  by_cases h : 1 ≤ n ∧ n ≤ 32
  · rw [if_pos h]; exact ev_pos (decide_eq_true h) (impl_Decode_l0 x n hx h 48 (by omega))
  · rw [if_neg h]; exact ev_neg (by simp only [decide_eq_true_eq]; exact h) (ev_ret rfl)

/-! ### strings_IndexByte -/
theorem strings_IndexByte_eq (b : UInt8) : strings_IndexByte.f lettersB (b.toNat : Int) = some (lo b) := by
  unfold strings_IndexByte.f stringslite_IndexByte.f lo
  simp

/-! ### impl_LetterOf -/
theorem impl_LetterOf_eq (b : UInt8) : impl_LetterOf.f (b.toNat : Int) = some (lo b) := by
  unfold impl_LetterOf.f
  have e : impl_letters.f = some lettersB := rfl
  rw [e]
  simp only [Option.bind_some]
  rw [strings_IndexByte_eq]
  rfl

/-! ### FnLetters -/
theorem FnLetters : laws_FnLetters.Pure := by
  intro l hl hz hw
  have hb : ∀ x ∈ l, 0 ≤ x ∧ x ≤ 255 := fun x hx => wf_u8 (hw x hx)
  refine Ev.rounds (r := true) ?_
  refine ev_bind (ev_eq (laws_big_eq l)) ?_
  by_cases hs : (l.length : Int) > 1048576
  · exact ev_pos (decide_eq_true hs) (ev_ret rfl)
  refine ev_neg (by simpa using hs) ?_
  obtain ⟨k, e, k0, k1⟩ := spec_DrawLetterAt_ev l (by omega)
  refine ev_bind e ?_
  have out : (k < 0 ∨ 48 ≤ k) → Ev (fun n => laws_FnLetters.j0 n l k true) true := by
    intro ho
    refine Ev.step (fun k => by rw [laws_FnLetters.j0]) ?_
    refine ev_pos rfl (ev_bind (ev_eq (impl_LetterAt_eq k)) ?_)
    rw [show (if 0 ≤ k ∧ k ≤ 47 then bt lettersB k else 0) = 0 from if_neg (by omega)]
    refine ev_pos rfl (ev_bind (ev_eq (impl_WidthOf_eq k)) (ev_ret ?_))
    rcases width_cases k with h | h | h | h
    · omega
    · omega
    · omega
    · rw [h.1]; rfl
  by_cases hn : k < 0
  · exact ev_pos hn (out (.inl hn))
  refine ev_neg hn ?_
  by_cases hg : k ≥ 48
  · rw [decide_eq_true hg]; exact out (.inr hg)
  rw [decide_eq_false hg]
  have w := width_in (k := k) (by omega) (by omega)
  obtain ⟨a1, e1, p1, q1⟩ := laws_at_eq l (by omega) hb 1 (by omega)
  obtain ⟨a2, e2, p2, q2⟩ := laws_at_eq l (by omega) hb 2 (by omega)
  obtain ⟨a3, e3, p3, q3⟩ := laws_at_eq l (by omega) hb 3 (by omega)
  have ht := tmod_range p1 (show (0 : Int) < 21 by omega)
  refine Ev.step (fun k => by rw [laws_FnLetters.j0]) ?_
  refine ev_neg (by simp) (ev_bind (ev_eq (impl_WidthOf_eq k)) (ev_bind (ev_eq e1) (ev_bind (ev_eq (impl_BitsOf_eq k)) ?_)))
  generalize Int.tmod a1 21 = r at ht ⊢
  rw [wu64 (by omega) (by omega)]
  refine ev_pos ht.1 (ev_bind (ev_eq e2) (ev_bind (ev_eq e3) ?_))
  have hp := two_pow_pos r.toNat
  have hq := two_pow_le (a := r.toNat) (b := 20) (by omega)
  have hw7 := two_pow_le (a := (widthOf k).toNat) (b := 7) (by omega)
  have hm := Int.mul_nonneg w.2.2.1 (show (0 : Int) ≤ 2 ^ r.toNat by omega)
  have hM : (bitsOf k + 1) * 2 ^ r.toNat ≤ 128 * 2 ^ r.toNat := Int.mul_le_mul_of_nonneg_right (by omega) (by omega)
  rw [Int.add_mul] at hM
  rw [w64 (x := a2 * 4099) (by omega) (by omega)]
  rw [w64 (x := a2 * 4099 + a3) (by omega) (by omega), shl1_u32 ht.1 (by omega), show ((2 : Int) ^ r.toNat - 1) % 4294967296 = 2 ^ r.toNat - 1 by omega, and_u32 (by omega) (by omega), shl_u32 w.2.2.1 (by omega) (by omega)]
  have hj0 := Int.emod_nonneg ((a2 * 4099 + a3) % 4294967296) (show (2 : Int) ^ r.toNat ≠ 0 by omega)
  have hj1 := Int.emod_lt_of_pos ((a2 * 4099 + a3) % 4294967296) hp
  generalize (a2 * 4099 + a3) % 4294967296 % 2 ^ r.toNat = j at hj0 hj1 ⊢
  rw [or_u32 r.toNat (by omega) (Int.mul_emod_left _ _) hj0 hj1 (by omega), w64 (by omega) (by omega)]
  have hd : dcode (bitsOf k * 2 ^ r.toNat + j) (widthOf k + r) = (k, widthOf k) := by
    refine dcode_hit (by omega) (by omega) (hit_code (by omega) _ _ j (by omega) ?_ ?_)
    · have e4 : (widthOf k + r - widthOf k).toNat = r.toNat := by omega
      rw [e4]
      refine Int.emod_eq_of_lt (by omega) ?_
      have e5 : (widthOf k + r).toNat = (widthOf k).toNat + r.toNat := by omega
      rw [e5, Int.pow_add]
      have : (bitsOf k + 1) * 2 ^ r.toNat ≤ 2 ^ (widthOf k).toNat * 2 ^ r.toNat := Int.mul_le_mul_of_nonneg_right (by omega) (by omega)
      rw [Int.add_mul] at this
      omega
    · have e4 : (widthOf k + r - widthOf k).toNat = r.toNat := by omega
      rw [e4]; omega
  have hdv := impl_Decode_ev (bitsOf k * 2 ^ r.toNat + j) (widthOf k + r) (by omega)
  rw [hd] at hdv
  refine ev_bind hdv (ev_bind (ev_eq (impl_LetterAt_eq k)) ?_)
  rw [show (if 0 ≤ k ∧ k ≤ 47 then bt lettersB k else 0) = bt lettersB k from if_pos (by omega), bt_letter (by omega) (by omega)]
  refine ev_bind (ev_eq (impl_LetterOf_eq _)) (ev_pos ?_ (ev_pos rfl (ev_pos rfl (ev_pos (by omega) (ev_ret ?_)))))
  · exact lo_letter (by omega) (by omega)
  · exact decide_eq_true (by omega)

end Go.Proofs.Ytmdjagnbbddnhaa.Pure
