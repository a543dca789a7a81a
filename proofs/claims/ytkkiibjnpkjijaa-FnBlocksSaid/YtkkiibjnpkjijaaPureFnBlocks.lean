/-
The law FnBlocks holds of the printed plain functions, for all arguments that the printed bounds allow.
-/
import Derived.Test.YtkkiibjnpkjijaaQFnBlocksx1
import Derived.Test.YtkkiibjnpkjijaaQFnBlocksx2
import Derived.Test.YtkkiibjnpkjijaaQFnBlocksx3
import Derived.Test.YtkkiibjnpkjijaaQFnBlocksx4
import Derived.Test.YtkkiibjnpkjijaaQFnBlocksx5
import Derived.Test.YtkkiibjnpkjijaaQFnBlocksx6
import Derived.Test.YtkkiibjnpkjijaaQFnBlocksx7
import Derived.Test.YtkkiibjnpkjijaaTools
import Derived.Test.YtkkiibjnpkjijaaNums
import Derived.Test.YtkkiibjnpkjijaaLetters
import Derived.Test.YtkkiibjnpkjijaaHeads
import Derived.Test.YtkkiibjnpkjijaaStores
import Derived.Test.YtkkiibjnpkjijaaPuts
import Derived.Test.YtkkiibjnpkjijaaBlocks
import Derived.Test.YtkkiibjnpkjijaaSpots
import Derived.Test.YtkkiibjnpkjijaaNames
import Derived.Test.YtkkiibjnpkjijaaItems
import Derived.Test.YtkkiibjnpkjijaaRound
import Derived.Test.YtkkiibjnpkjijaaDraws
import Derived.Test.YtkkiibjnpkjijaaCells
namespace Go.Proofs.Ytkkiibjnpkjijaa.Pure
open Go.RowKit Go.Proofs.Ytkkiibjnpkjijaa.QFnBlocks Go.Proofs.YtkkiibjnpkjijaaW.PrintWords Go.Proofs.YtkkiibjnpkjijaaW.PrintLast Go.Proofs.YtkkiibjnpkjijaaW.PrintMore Go.Proofs.Ytkkiibjnpkjijaa.Tools Go.Proofs.Ytkkiibjnpkjijaa.Plain
set_option linter.unusedVariables false

/-! ### laws_big -/
theorem laws_big_eq (l : List Int) : laws_big.f l = some (decide ((l.length : Int) > 1048576)) := rfl

/-! ### laws_sameCells -/
theorem laws_sameCells_l0 (a b : List Int) (hl : a.length ≤ 70368744177664) (he : a.length = b.length) (d : Nat) : ∀ (i : Nat), i + d = a.length → Ev (fun k => laws_sameCells.l0 k a b (i : Int)) (decide (a.drop i = b.drop i)) := by
  induction d with
  | zero =>
    intro i hi
    refine Ev.step (fun k => by rw [laws_sameCells.l0]) ?_
    refine ev_neg (by omega) (ev_ret ?_)
    rw [List.drop_of_length_le (by omega), List.drop_of_length_le (by omega)]; rfl
  | succ d ih =>
    intro i hi
    refine Ev.step (fun k => by rw [laws_sameCells.l0]) ?_
    refine ev_pos (by omega) (ev_pos (by omega) (ev_pos (by omega) ?_))
    rw [rd_nat (by omega), rd_nat (by omega), w64 (by omega) (by omega), show ((i : Int) + 1) = ((i + 1 : Nat) : Int) by omega, List.drop_eq_getElem_cons (by omega : i < a.length), List.drop_eq_getElem_cons (by omega : i < b.length)]
    refine ev_ite (fun h => ev_to (ih (i + 1) (by omega)) (dec_cons h)) (fun h => ev_ret (dec_cons_ne h))
theorem laws_sameCells_ev (a b : List Int) (hl : a.length ≤ 70368744177664) : Ev (fun k => laws_sameCells.f k a b) (decide (a = b)) := by
  by_cases h : a.length = b.length
  · exact ev_pos (by omega) (laws_sameCells_l0 a b hl h a.length 0 (Nat.zero_add _))
  · exact ev_neg (by omega) (ev_ret (decide_eq_false fun e => h (by rw [e])).symm)

/-! ### laws_padded -/
theorem laws_padded_l0 (l : List Int) (hl : l.length ≤ 1000000) (d : Nat) : ∀ (i : Nat), i + d = 64 - l.length → Ev (fun k => laws_padded.l0 k (l ++ List.replicate i 0)) (fill l) := by
  induction d with
  | zero =>
    intro i hi
    refine Ev.step (fun k => by rw [laws_padded.l0]) ?_
    refine ev_neg (by rw [List.length_append, List.length_replicate]; omega) (ev_ret ?_)
    rw [fill, show i = 64 - l.length by omega]
  | succ d ih =>
    intro i hi
    refine Ev.step (fun k => by rw [laws_padded.l0]) ?_
    refine ev_pos (by rw [List.length_append, List.length_replicate]; omega) (ev_pos (by rw [List.length_append, List.length_replicate]; omega) ?_)
    have e := ih (i + 1) (by omega)
    rw [List.replicate_succ', ← List.append_assoc] at e
    exact e
theorem laws_padded_ev (l : List Int) (hl : l.length ≤ 1000000) : Ev (fun k => laws_padded.f k l) (fill l) := by
  have e := laws_padded_l0 l hl (64 - l.length) 0 (Nat.zero_add _)
  rw [List.replicate_zero, List.append_nil] at e
  exact ev_some (ev_pos (by simp only [List.length_nil]; omega) e)

/-! ### impl_StoreOk -/
theorem impl_StoreOk_eq (l : List Int) : impl_StoreOk.f l = some (decide ((l.length : Int) % 64 = 0 ∧ (l.length : Int) ≤ 768)) := by
  unfold impl_StoreOk.f
  by_cases h : (l.length : Int) % 64 = 0
  · rw [if_pos h]; simp [h]
  · rw [if_neg h]; simp [h]

/-! ### impl_within -/
theorem impl_within_eq (a b c : Int) : impl_within.f a b c = some (decide (b ≤ a ∧ a ≤ c)) := by
  unfold impl_within.f
  by_cases h : b ≤ a
  · rw [if_pos h]; simp [h]
  · rw [if_neg h]; simp [h]

/-! ### impl_hasBlocks -/
theorem impl_hasBlocks_eq (l : List Int) (b : Int) (hl : l.length ≤ 1048576) : impl_hasBlocks.f l [b] = some (decide (hasBlock l b)) := by
  unfold impl_hasBlocks.f
  simp only
  rw [impl_StoreOk_eq]
  simp only [Option.bind_some]
  rw [w64 (x := (l.length : Int) / 64) (by omega) (by omega), w64 (by omega) (by omega)]
  by_cases hh : hasBlock l b
  · rw [decide_eq_true hh]
    obtain ⟨h, h2, h3⟩ := hh
    rw [if_pos (decide_eq_true h), impl_within_eq, decide_eq_true (by omega)]
  · rw [decide_eq_false hh]
    by_cases h : (l.length : Int) % 64 = 0 ∧ (l.length : Int) ≤ 768
    · rw [if_pos (decide_eq_true h), impl_within_eq, decide_eq_false (fun x => hh ⟨h, x.1, by omega⟩)]
    · rw [if_neg (by simpa using h)]

/-! ### slices_Clone_uint32_uint32 -/
theorem slices_Clone_u32_eq (l : List Int) (hl : l.length ≤ 35184372088831) : slices_Clone_uint32_uint32.f l = some l := if_pos hl

/-! ### impl_PutBlock -/
theorem impl_PutBlock_eq (l : List Int) (b : Int) (cs : List Int) (hl : l.length ≤ 1048576) : impl_PutBlock.f l b cs = some (putBlock l b cs) := by
  unfold impl_PutBlock.f impl_PutBlock.g
  rw [impl_hasBlocks_eq l b hl]
  simp only [Option.bind_some]
  by_cases h : hasBlock l b
  · rw [if_pos (decide_eq_true h)]
    by_cases hc : cs.length ≤ 64
    · have hb := hasBlock_room h
      rw [if_neg (by omega), slices_Clone_u32_eq l (by omega)]
      simp only [Option.bind_some]
      rw [if_pos trivial, if_pos ⟨hb.1, hb.2.1, hl, hc⟩, show putBlock l b cs = (putCells l (b * 64).toNat cs, true) from if_pos ⟨h, hc⟩, putAt, put_splice hc (by omega)]
    · rw [if_pos (by omega)]
      simp only [Option.bind_some]
      rw [if_neg (by simp), show putBlock l b cs = ([], false) from if_neg (fun g => hc g.2)]
  · rw [if_neg (by simpa using h)]
    simp only [Option.bind_some]
    rw [if_neg (by simp), show putBlock l b cs = ([], false) from if_neg (fun g => h g.1)]

/-! ### impl_BlockOf -/
theorem impl_BlockOf_eq (l : List Int) (b : Int) (hl : l.length ≤ 1048576) : impl_BlockOf.f l b = some (blockOf l b) := by
  unfold impl_BlockOf.f
  rw [impl_hasBlocks_eq l b hl]
  simp only [Option.bind_some]
  by_cases h : hasBlock l b
  · have hc := blockAt_length h
    unfold blockOf blockAt at *
    rw [if_pos h, if_pos (decide_eq_true h)]
    obtain ⟨⟨h1, h2⟩, h3, h4⟩ := h
    rw [w64 (x := b * 64) (by omega) (by omega), w64 (x := b + 1) (by omega) (by omega), w64 (x := (b + 1) * 64) (by omega) (by omega)]
    rw [if_pos (by omega), if_pos (by omega), if_pos (by omega), slices_Clone_u32_eq _ (by rw [hc]; omega)]
    rfl
  · unfold blockOf
    rw [if_neg h, if_neg (by simpa using h)]

/-! ### impl_CopyBlock -/
theorem impl_CopyBlock_eq (l : List Int) (a b : Int) (hl : l.length ≤ 1048576) : impl_CopyBlock.f l a b = some (copyBlock l a b) := by
  unfold impl_CopyBlock.f
  rw [impl_BlockOf_eq l a hl]
  simp only [Option.bind_some]
  by_cases h : hasBlock l a
  · rw [show blockOf l a = (blockAt l a, true) from if_pos h, show copyBlock l a b = putBlock l b (blockAt l a) from if_pos h]
    simp only [if_true]
    rw [impl_PutBlock_eq l b _ hl]
    rfl
  · rw [show blockOf l a = ([], false) from if_neg h, show copyBlock l a b = ([], false) from if_neg h]
    simp

/-! ### spec_l01New -/
theorem spec_l01New_l0 (l : List Int) (hl : l.length ≤ 1048576) (d : Nat) : ∀ (i : Nat) (h : Int), i + d = l.length → ∃ h', Ev (fun k => spec_l01New.l0 k l h (i : Int)) (l, 0, h') := by
  induction d with
  | zero =>
    intro i h hi
    refine ⟨h, Ev.step (fun k => by rw [spec_l01New.l0]) ?_⟩
    exact ev_neg (by omega) (ev_ret rfl)
  | succ d ih =>
    intro i h hi
    by_cases h4 : (i : Int) < 4000
    · obtain ⟨h', e⟩ := ih (i + 1) (Go.bits .and .i64 (wrap64 ((wrap64 ((wrap64 (h * 131)) + (wrap64 (rd l i)))) + 7)) 1073741823) (by omega)
      refine ⟨h', Ev.step (fun k => by rw [spec_l01New.l0]) ?_⟩
      refine ev_pos (by omega) (ev_pos h4 (ev_pos (by omega) ?_))
      rw [w64 (x := (i : Int) + 1) (by omega) (by omega), show ((i : Int) + 1) = ((i + 1 : Nat) : Int) by omega]
      exact e
    · refine ⟨h, Ev.step (fun k => by rw [spec_l01New.l0]) ?_⟩
      exact ev_pos (by omega) (ev_neg h4 (ev_ret rfl))
theorem spec_l01New_ev (l : List Int) (hl : l.length ≤ 1048576) : ∃ h, Ev (fun k => spec_l01New.f k l) (l, 0, h) := spec_l01New_l0 l hl l.length 0 _ (by omega)

/-! ### spec_l01Byte -/
theorem spec_l01Byte_eq {b : List Int} {i : Int} (h : Int) (hc : Cur b i) : ∃ r i' h', spec_l01Byte.f b i h = some (r, i', h') ∧ 0 ≤ r ∧ r ≤ 255 ∧ Cur b i' := by
  obtain ⟨c0, c1, c2⟩ := hc
  unfold spec_l01Byte.f
  by_cases hlt : i < (b.length : Int)
  · rw [if_pos hlt, if_pos c1]
    have := and_255 (wrap64 ((Go.bits .and .i64 (Go.bits .xor .i64 ((wrap64 ((wrap64 (h * 6364136223846793005)) + 1442695040888963407)) / 8589934592) ((wrap64 ((wrap64 (h * 6364136223846793005)) + 1442695040888963407)) / 35184372088832)) 255) + (wrap64 (rd b i))))
    exact ⟨_, _, _, rfl, this.1, this.2, c0, by rw [w64 (by omega) (by omega)]; omega, by rw [w64 (by omega) (by omega)]; omega⟩
  · rw [if_neg hlt]
    have := and_255 (Go.bits .xor .i64 ((wrap64 ((wrap64 (h * 6364136223846793005)) + 1442695040888963407)) / 8589934592) ((wrap64 ((wrap64 (h * 6364136223846793005)) + 1442695040888963407)) / 35184372088832))
    exact ⟨_, _, _, rfl, this.1, this.2, c0, c1, c2⟩

/-! ### spec_l01Below -/
theorem spec_l01Below_eq {b : List Int} {i : Int} (h n : Int) (hc : Cur b i) (hn : 0 < n) : ∃ r i' h', spec_l01Below.f b i h n = some (r, i', h') ∧ 0 ≤ r ∧ r < n ∧ Cur b i' := by
  unfold spec_l01Below.f
  rw [if_neg (by omega)]
  by_cases h2 : n ≤ 256
  · obtain ⟨r, i1, h1, e, r0, r1, c1⟩ := spec_l01Byte_eq h hc
    have := tmod_range r0 hn
    rw [if_pos h2, e]
    simp only [Option.bind_some]
    rw [if_neg (by omega)]
    exact ⟨_, _, _, rfl, this.1, this.2, c1⟩
  · obtain ⟨x, i1, h1, e1, x0, x1, c1⟩ := spec_l01Byte_eq h hc
    obtain ⟨y, i2, h2', e2, y0, y1, c2⟩ := spec_l01Byte_eq h1 c1
    obtain ⟨z, i3, h3, e3, z0, z1, c3⟩ := spec_l01Byte_eq h2' c2
    obtain ⟨v, i4, h4, e4, v0, v1, c4⟩ := spec_l01Byte_eq h3 c3
    rw [if_neg h2, e1]
    simp only [Option.bind_some]
    rw [e2]
    simp only [Option.bind_some]
    rw [e3]
    simp only [Option.bind_some]
    rw [e4]
    simp only [Option.bind_some]
    rw [if_neg (by omega)]
    have e5 : (wrap64 ((wrap64 ((wrap64 ((wrap64 (x * 16777216)) + (wrap64 (y * 65536)))) + (wrap64 (z * 256)))) + v)) = x * 16777216 + y * 65536 + z * 256 + v := by
      rw [w64 (x := x * 16777216) (by omega) (by omega), w64 (x := y * 65536) (by omega) (by omega), w64 (x := z * 256) (by omega) (by omega), w64 (x := x * 16777216 + y * 65536) (by omega) (by omega), w64 (x := x * 16777216 + y * 65536 + z * 256) (by omega) (by omega), w64 (by omega) (by omega)]
    rw [e5]
    have := tmod_range (x := x * 16777216 + y * 65536 + z * 256 + v) (by omega) hn
    exact ⟨_, _, _, rfl, this.1, this.2, c4⟩

/-! ### spec_l04Num -/
theorem spec_l04Num_eq (n : Int) (hex : Bool) (s l : Int) (hn : -2147483648 ≤ n ∧ n ≤ 2147483647) (hs : 0 ≤ s ∧ s ≤ 15) (hl : 0 ≤ l ∧ l ≤ 15) : spec_l04Num.f n hex s l = some (numCells n hex s l) := by
  unfold spec_l04Num.f numCells bitOf
  cases hex
  · simp only [Bool.false_eq_true, if_false]
    by_cases h : -67108864 ≤ n ∧ n ≤ 67108863
    · rw [if_pos h.1, if_pos h.2, if_pos h]
      congr 2; omega
    · rw [if_neg h]
      have e : (0 + l) % 4294967296 = 0 + l := by omega
      rw [e]
      by_cases h1 : n ≥ -67108864
      · rw [if_pos h1, if_neg (by omega)]
      · rw [if_neg h1]
  · simp only [if_true]
    by_cases h : -67108864 ≤ n ∧ n ≤ 67108863
    · rw [if_pos h.1, if_pos h.2, if_pos h]
      congr 2; omega
    · rw [if_neg h]
      have e : (16 + l) % 4294967296 = 16 + l := by omega
      rw [e]
      by_cases h1 : n ≥ -67108864
      · rw [if_pos h1, if_neg (by omega)]
      · rw [if_neg h1]

/-! ### spec_l01In -/
theorem spec_l01In_eq (a b c : Int) : spec_l01In.f a b c = some (decide (b ≤ a ∧ a ≤ c)) := by
  unfold spec_l01In.f
  by_cases h : b ≤ a
  · rw [if_pos h]; simp [h]
  · rw [if_neg h]; simp [h]

/-! ### spec_LetterOf -/
theorem spec_LetterOf_all : ∀ b : UInt8, spec_LetterOf.f 49 (b.toNat : Int) = some (lo b) := all_bytes (by decide +kernel)
theorem spec_LetterOf_ev (b : UInt8) : Ev (fun k => spec_LetterOf.f k (b.toNat : Int)) (lo b) := Ev.of (spec_LetterOf.mono _) (spec_LetterOf_all b)

/-! ### spec_NameOk -/
theorem spec_NameOk_l0 (s : ByteArray) (hs : s.size ≤ 24) (d : Nat) : ∀ i : Nat, i + d = s.size → Ev (fun k => spec_NameOk.l0 k s (i : Int)) ((s.data.toList.drop i).all (fun b => decide (1 ≤ lo b))) := by
  induction d with
  | zero =>
    intro i hi
    refine Ev.step (fun k => by rw [spec_NameOk.l0]) ?_
    refine ev_neg (by omega) (ev_ret ?_)
    rw [List.drop_of_length_le (by rw [← size_eq]; omega)]; rfl
  | succ d ih =>
    intro i hi
    have hlt : i < s.size := by omega
    refine Ev.step (fun k => by rw [spec_NameOk.l0]) ?_
    refine ev_pos (by omega) (ev_pos (by omega) (ev_bind (by rw [bt_at hlt]; exact spec_LetterOf_ev _) ?_))
    rw [drop_cons hlt, List.all_cons]
    by_cases h : 1 ≤ lo s[i]
    · refine ev_neg (by omega) ?_
      rw [w64 (by omega) (by omega), show ((i : Int) + 1) = ((i + 1 : Nat) : Int) by omega, decide_eq_true h, Bool.true_and]
      exact ih (i + 1) (by omega)
    · refine ev_pos (by omega) (ev_ret ?_)
      rw [decide_eq_false h, Bool.false_and]
theorem spec_NameOk_ev (s : ByteArray) : Ev (fun k => spec_NameOk.f k s) (okName s.data.toList) := by
  refine ev_bind (ev_eq (spec_l01In_eq _ _ _)) ?_
  unfold okName
  rw [← size_eq]
  by_cases h : 1 ≤ (s.size : Int) ∧ (s.size : Int) ≤ 24
  · refine ev_pos (decide_eq_true h) ?_
    rw [decide_eq_true (show 1 ≤ s.size by omega), decide_eq_true (show s.size ≤ 24 by omega), Bool.true_and, Bool.true_and]
    exact spec_NameOk_l0 s (by omega) s.size 0 (by omega)
  · refine ev_neg (by simp only [decide_eq_true_eq]; exact h) (ev_ret ?_)
    by_cases h1 : 1 ≤ s.size
    · rw [decide_eq_false (show ¬ s.size ≤ 24 by omega)]; simp
    · rw [decide_eq_false h1]; simp

/-! ### spec_WidthOf -/
theorem spec_WidthOf_eq (k : Int) : spec_WidthOf.f k = some (widthOf k) := by
  unfold spec_WidthOf.f widthOf
  simp only [spec_l01In_eq, Option.bind_some, decide_eq_true_eq]
  by_cases h1 : 0 ≤ k ∧ k ≤ 7
  · rw [if_pos h1, if_pos h1]
  rw [if_neg h1, if_neg h1]
  by_cases h2 : 8 ≤ k ∧ k ≤ 15
  · rw [if_pos h2, if_pos h2]
  rw [if_neg h2, if_neg h2]
  by_cases h3 : 16 ≤ k ∧ k ≤ 47
  · rw [if_pos h3, if_pos h3]
  rw [if_neg h3, if_neg h3]

/-! ### spec_BitsOf -/
theorem spec_BitsOf_eq (k : Int) : spec_BitsOf.f k = some (bitsOf k) := by
  unfold spec_BitsOf.f
  simp only [spec_WidthOf_eq, Option.bind_some]
  rcases width_cases k with ⟨e1, e2, h⟩ | ⟨e1, e2, h⟩ | ⟨e1, e2, h⟩ | ⟨e1, e2, h⟩ <;> rw [e1, e2] <;> simp
  · omega
  · rw [w64 (by omega) (by omega)]; omega
  · rw [w64 (by omega) (by omega)]; omega

/-! ### spec_l03One -/
theorem spec_l03One_l0 (s : ByteArray) (hs : s.size ≤ 1000000) (hb : ∀ b ∈ s.data.toList, 1 ≤ lo b) (d : Nat) : ∀ (i : Nat) (f left : Int), i + d = s.size → 0 ≤ left → left ≤ 28 → 0 ≤ f → f + 2 ^ left.toNat ≤ 268435456 →
    Ev (fun k => spec_l03One.l0 k s f left (i : Int)) (f + (one (s.data.toList.drop i) left).1, (i : Int) + ((one (s.data.toList.drop i) left).2 : Int)) := by
  induction d with
  | zero =>
    intro i f left hi h0 h1 h2 h3
    have := two_pow_pos left.toNat
    refine Ev.step (fun k => by rw [spec_l03One.l0]) ?_
    refine ev_neg (by omega) (ev_ret ?_)
    rw [List.drop_of_length_le (by rw [← size_eq]; omega), one]
    simp; omega
  | succ d ih =>
    intro i f left hi h0 h1 h2 h3
    have hlt : i < s.size := by omega
    have hp := two_pow_pos left.toNat
    have hl1 := hb s[i] (by rw [getB hlt]; exact List.getElem_mem _)
    have hlr := lo_range s[i]
    have w := width_in (k := lo s[i]) (by omega) (by omega)
    rw [drop_cons hlt, one]
    refine Ev.step (fun k => by rw [spec_l03One.l0]) ?_
    refine ev_pos (by omega) (ev_pos (by omega) (ev_bind (by rw [bt_at hlt]; exact spec_LetterOf_ev _) (ev_bind (ev_eq (spec_WidthOf_eq _)) ?_)))
    by_cases hw : widthOf (lo s[i]) > left
    · rw [if_pos hw]
      refine ev_pos hw (ev_ret ?_)
      simp; omega
    · rw [if_neg hw]
      have e : left.toNat = (widthOf (lo s[i])).toNat + (left - widthOf (lo s[i])).toNat := by omega
      have hq := two_pow_pos (left - widthOf (lo s[i])).toNat
      have hm : (bitsOf (lo s[i]) + 1) * 2 ^ (left - widthOf (lo s[i])).toNat ≤ 2 ^ left.toNat := by
        rw [e, Int.pow_add]; exact Int.mul_le_mul_of_nonneg_right (by omega) (by omega)
      rw [Int.add_mul] at hm
      have hn := Int.mul_nonneg w.2.2.1 (show 0 ≤ (2 : Int) ^ (left - widthOf (lo s[i])).toNat by omega)
      have hb7 := two_pow_le (a := (widthOf (lo s[i])).toNat) (b := 7) (by omega)
      refine ev_neg hw (ev_bind (ev_eq (spec_BitsOf_eq _)) (ev_pos (by rw [w64 (by omega) (by omega), wu64 (by omega) (by omega)]; omega) ?_))
      rw [w64 (x := bitsOf (lo s[i])) (by omega) (by omega), w64 (x := left - widthOf (lo s[i])) (by omega) (by omega), wu64 (by omega) (by omega), shl_i64 w.2.2.1 (by omega) (by omega), w64 (by omega) (by omega), w64 (by omega) (by omega), show ((i : Int) + 1) = ((i + 1 : Nat) : Int) by omega]
      refine ev_to (ih (i + 1) _ _ (by omega) (by omega) (by omega) (by omega) (by omega)) ?_
      simp only [Prod.mk.injEq]
      constructor <;> omega
theorem spec_l03One_ev (l : List UInt8) (hl : l.length ≤ 1000000) (hb : ∀ b ∈ l, 1 ≤ lo b) : Ev (fun k => spec_l03One.f k (toB l)) ((one l 28).1, ((one l 28).2 : Int)) := by
  refine ev_to (spec_l03One_l0 (toB l) (by rw [toB_size]; exact hl) hb l.length 0 0 28 (by rw [toB_size]; omega) (by omega) (by omega) (by omega) (by decide)) ?_
  rw [toB_data]; simp

/-! ### spec_Pack -/
theorem spec_Pack_l0 (n : Nat) : ∀ (l : List UInt8) (out : List Int), l.length ≤ n → n ≤ 1000000 → (∀ b ∈ l, 1 ≤ lo b) → out.length + l.length ≤ 1000000 → Ev (fun k => spec_Pack.l0 k (toB l) out) (out ++ packF l.length l) := by
  induction n with
  | zero =>
    intro l out hl hn hb ho
    have : l = [] := List.eq_nil_of_length_eq_zero (by omega)
    subst this
    refine Ev.step (fun k => by rw [spec_Pack.l0]) ?_
    exact ev_pos (by rw [ba_toList]; rfl) (ev_ret (by simp [packF]))
  | succ n ih =>
    intro l out hl hn hb ho
    by_cases h : l = []
    · subst h
      refine Ev.step (fun k => by rw [spec_Pack.l0]) ?_
      exact ev_pos (by rw [ba_toList]; rfl) (ev_ret (by simp [packF]))
    · have h1 := one_pos h (left := 28) (by omega)
      have h2 := one_range l 28 (by omega) (by omega) hb
      refine Ev.step (fun k => by rw [spec_Pack.l0]) ?_
      refine ev_neg (by rw [ba_toList, toB_data]; exact h) (ev_bind (spec_l03One_ev l (by omega) hb) (ev_pos (by omega) (ev_pos (by simp only; omega) (ev_pos (by rw [toB_size]; simp only; omega) ?_))))
      rw [packF_step h, extract_eq, toB_data, toB_size, List.take_of_length_le (by omega)]
      simp only [Int.toNat_natCast]
      refine ev_to (ih (l.drop (one l 28).2) (out ++ [(one l 28).1]) (by rw [List.length_drop]; omega) (by omega) (fun b hb' => hb b (List.mem_of_mem_drop hb')) (by simp only [List.length_append, List.length_drop, List.length_cons, List.length_nil]; omega)) ?_
      simp
theorem spec_Pack_ev (l : List UInt8) : Ev (fun k => spec_Pack.f k (toB l)) (pack l) := by
  refine ev_some (ev_bind (spec_NameOk_ev _) ?_)
  rw [toB_data]
  unfold pack
  by_cases h : okName l = true
  · rw [if_pos h]
    obtain ⟨h1, h2, h3⟩ := (okName_iff l).1 h
    exact ev_pos h (spec_Pack_l0 l.length l [] (by omega) (by omega) h3 (by simp; omega))
  · rw [if_neg h]
    exact ev_neg h (ev_ret rfl)

/-! ### spec_l04Word -/
theorem spec_l04Word_l0 (t : Int) (ht : 0 ≤ t ∧ t ≤ 15) (fs : List Int) (hf : ∀ f ∈ fs, 0 ≤ f ∧ f < 268435456) (hl : fs.length ≤ 24) (d : Nat) : ∀ i : Nat, i + d = fs.length →
    Ev (fun k => spec_l04Word.l0 k t ((word t fs).take i ++ fs.drop i) (i : Int)) (word t fs) := by
  induction d with
  | zero =>
    intro i hi
    refine Ev.step (fun k => by rw [spec_l04Word.l0]) ?_
    have hw := word_length t fs
    refine ev_neg (by rw [List.length_append, List.length_take, List.length_drop]; omega) (ev_ret ?_)
    rw [List.take_of_length_le (by omega), List.drop_of_length_le (by omega), List.append_nil]
  | succ d ih =>
    intro i hi
    have hw := word_length t fs
    have hlt : i < fs.length := by omega
    have hfi := hf fs[i] (List.getElem_mem _)
    have hti : i = ((word t fs).take i).length := by rw [List.length_take]; omega
    have hg := word_getElem t fs i hlt
    refine Ev.step (fun k => by rw [spec_l04Word.l0]) ?_
    refine ev_pos (by rw [List.length_append, List.length_take, List.length_drop]; omega) (ev_pos (by omega) (ev_some ?_))
    rw [List.drop_eq_getElem_cons hlt, rd_mid hti]
    simp only [Int.toNat_natCast]
    rw [set_mid hti, w64 (by omega) (by omega), show ((i : Int) + 1) = ((i + 1 : Nat) : Int) by omega]
    have next := ih (i + 1) (by omega)
    rw [List.take_succ_eq_append_getElem (by rw [hw]; exact hlt), hg, List.append_assoc, List.singleton_append] at next
    by_cases h0 : i = 0
    · refine ev_pos (by omega) ?_
      rw [rd_mid hti, set_mid hti]
      rw [if_pos h0] at next
      rw [show (fs[i] * 16 % 4294967296 + t) % 4294967296 = fs[i] * 16 + t by omega]
      exact next
    · refine ev_neg (by omega) ?_
      rw [if_neg h0] at next
      rw [show fs[i] * 16 % 4294967296 = fs[i] * 16 by omega]
      exact next
theorem spec_l04Word_ev (t : Int) (ht : 0 ≤ t ∧ t ≤ 15) (l : List UInt8) : Ev (fun k => spec_l04Word.f k t (toB l)) (word t (pack l)) := by
  refine ev_bind (spec_Pack_ev l) ?_
  have := spec_l04Word_l0 t ht (pack l) (fun f hf => (pack_fields f hf).2) (pack_length l) (pack l).length 0 (Nat.zero_add _)
  simpa using this

/-! ### spec_l04Tag -/
theorem spec_l04Tag_eq (k : Int) : spec_l04Tag.f k = some (tagOf k) := by
  unfold spec_l04Tag.f tagOf
  repeat' split
  all_goals rfl

/-! ### spec_CellsOf -/
theorem spec_CellsOf_j0 (it : It) (hn : -2147483648 ≤ it.n ∧ it.n ≤ 2147483647) (b : Bool) (hb : b = true ↔ (it.n = 0 ∧ it.hex = false ∧ it.raw = 0)) : Ev (fun k => spec_CellsOf.j0 k b it.kind (toB it.name) it.n it.hex it.raw) (cellsOf it) := by
  obtain ⟨kind, name, n, hex, raw⟩ := it
  simp only at hn hb ⊢
  refine Ev.step (fun k => by rw [spec_CellsOf.j0]) ?_
  by_cases k0 : kind = 0
  · refine ev_pos k0 ?_
    have e : cellsOf ⟨kind, name, n, hex, raw⟩ = if name = [] ∧ n = 0 ∧ hex = false then [raw] else [] := by unfold cellsOf; simp only; rw [if_pos k0]
    rw [e]
    by_cases h1 : name = []
    · refine ev_pos ((toB_nil_iff name).2 h1) ?_
      by_cases h2 : n = 0
      · refine ev_pos h2 ?_
        cases hex with
        | true => exact ev_pos rfl (ev_ret (if_neg (fun h => Bool.noConfusion h.2.2)).symm)
        | false => exact ev_neg (by simp) (ev_ret (if_pos ⟨h1, h2, rfl⟩).symm)
      · exact ev_neg h2 (ev_ret (if_neg (fun h => h2 h.2.1)).symm)
    · exact ev_neg (fun h => h1 ((toB_nil_iff name).1 h)) (ev_ret (if_neg (fun h => h1 h.1)).symm)
  refine ev_neg k0 ?_
  by_cases k7 : kind = 7
  · refine ev_pos k7 ?_
    have e : cellsOf ⟨kind, name, n, hex, raw⟩ = if name = [] ∧ raw = 0 then numCells n hex 8 2 else [] := by unfold cellsOf; simp only; rw [if_neg k0, if_pos k7]
    rw [e]
    by_cases h1 : name = []
    · refine ev_pos ((toB_nil_iff name).2 h1) ?_
      by_cases h2 : raw = 0
      · exact ev_pos h2 (ev_bind (ev_eq (spec_l04Num_eq n hex 8 2 hn (by omega) (by omega))) (ev_ret (if_pos ⟨h1, h2⟩).symm))
      · exact ev_neg h2 (ev_ret (if_neg (fun h => h2 h.2)).symm)
    · exact ev_neg (fun h => h1 ((toB_nil_iff name).1 h)) (ev_ret (if_neg (fun h => h1 h.1)).symm)
  refine ev_neg k7 ?_
  by_cases k8 : kind = 8
  · refine ev_pos k8 ?_
    have e : cellsOf ⟨kind, name, n, hex, raw⟩ = if name = [] ∧ raw = 0 then numCells n hex 6 5 else [] := by unfold cellsOf; simp only; rw [if_neg k0, if_neg k7, if_pos k8]
    rw [e]
    by_cases h1 : name = []
    · refine ev_pos ((toB_nil_iff name).2 h1) ?_
      by_cases h2 : raw = 0
      · exact ev_pos h2 (ev_bind (ev_eq (spec_l04Num_eq n hex 6 5 hn (by omega) (by omega))) (ev_ret (if_pos ⟨h1, h2⟩).symm))
      · exact ev_neg h2 (ev_ret (if_neg (fun h => h2 h.2)).symm)
    · exact ev_neg (fun h => h1 ((toB_nil_iff name).1 h)) (ev_ret (if_neg (fun h => h1 h.1)).symm)
  refine ev_neg k8 ?_
  by_cases k9 : kind = 9
  · have hp := pack_length name
    have hwl := word_length 12 (pack name)
    have e : cellsOf ⟨kind, name, n, hex, raw⟩ = if hex = false ∧ raw = 0 ∧ (pack name).length = 1 then word 12 (pack name) ++ [n % 4294967296] else [] := by unfold cellsOf; simp only; rw [if_neg k0, if_neg k7, if_neg k8, if_pos k9]
    rw [e]
    refine ev_pos k9 (ev_bind (spec_l04Word_ev 12 (by omega) name) ?_)
    by_cases h1 : (pack name).length = 1
    · refine ev_pos (by omega) ?_
      cases hex with
      | true => exact ev_pos rfl (ev_ret (if_neg (fun h => Bool.noConfusion h.1)).symm)
      | false =>
        refine ev_neg (by simp) ?_
        by_cases h2 : raw = 0
        · exact ev_pos h2 (ev_pos (by omega) (ev_ret (if_pos ⟨rfl, h2, h1⟩).symm))
        · exact ev_neg h2 (ev_ret (if_neg (fun h => h2 h.2.1)).symm)
    · exact ev_neg (by omega) (ev_ret (if_neg (fun h => h1 h.2.2)).symm)
  have e : cellsOf ⟨kind, name, n, hex, raw⟩ = if 0 < tagOf kind ∧ n = 0 ∧ hex = false ∧ raw = 0 then word (tagOf kind) (pack name) else [] := by unfold cellsOf; simp only; rw [if_neg k0, if_neg k7, if_neg k8, if_neg k9]
  rw [e]
  refine ev_neg k9 (ev_bind (ev_eq (spec_l04Tag_eq kind)) ?_)
  have ht := tagOf_range kind
  by_cases hp : 0 < tagOf kind
  · refine ev_pos hp ?_
    by_cases hq : n = 0 ∧ hex = false ∧ raw = 0
    · exact ev_pos (hb.2 hq) (ev_bind (spec_l04Word_ev _ (by omega) name) (ev_ret (if_pos ⟨hp, hq⟩).symm))
    · exact ev_neg (fun h => hq (hb.1 h)) (ev_ret (if_neg (fun h => hq h.2)).symm)
  · exact ev_neg hp (ev_ret (if_neg (fun h => hp h.1)).symm)
theorem spec_CellsOf_ev (it : It) (hn : -2147483648 ≤ it.n ∧ it.n ≤ 2147483647) : Ev (fun k => spec_CellsOf.f k it.kind (toB it.name) it.n it.hex it.raw) (cellsOf it) := by
  unfold spec_CellsOf.f
  by_cases h1 : it.n = 0
  · refine ev_pos h1 ?_
    cases h2 : it.hex with
    | true =>
      refine ev_pos rfl ?_
      rw [← h2]
      exact spec_CellsOf_j0 it hn _ (by simp [h2])
    | false =>
      refine ev_neg (by simp) ?_
      rw [← h2]
      exact spec_CellsOf_j0 it hn _ (by simp [h1, h2])
  · exact ev_neg h1 (spec_CellsOf_j0 it hn _ (by simp [h1]))

/-! ### spec_l01Once -/
theorem spec_l01Once_eq {b : List Int} {i : Int} (h n : Int) (hc : Cur b i) (hn : 0 < n) : ∃ r i' h', spec_l01Once.f b i h n = some (r, i', h') ∧ Cur b i' := by
  obtain ⟨r, i', h', e, _, _, c⟩ := spec_l01Below_eq h n hc hn
  unfold spec_l01Once.f
  rw [e]
  exact ⟨_, _, _, rfl, c⟩

/-! ### spec_l01Pick -/
theorem spec_l01Pick_eq {b : List Int} {i : Int} (h : Int) (l : List ByteArray) (hc : Cur b i) (hn : 0 < l.length) : ∃ r i' h', spec_l01Pick.f b i h l = some (r, i', h') ∧ r ∈ l ∧ Cur b i' := by
  obtain ⟨r, i', h', e, r0, r1, c⟩ := spec_l01Below_eq h (l.length : Int) hc (by omega)
  unfold spec_l01Pick.f
  rw [e]
  simp only [Option.bind_some]
  rw [if_pos r0, if_pos r1]
  exact ⟨_, _, _, rfl, rdOf_mem r0 r1, c⟩

/-! ### spec_l01PickInt -/
theorem spec_l01PickInt_eq {b : List Int} {i : Int} (h : Int) (l : List Int) (hc : Cur b i) (hn : 0 < l.length) : ∃ r i' h', spec_l01PickInt.f b i h l = some (r, i', h') ∧ r ∈ l ∧ Cur b i' := by
  obtain ⟨r, i', h', e, r0, r1, c⟩ := spec_l01Below_eq h (l.length : Int) hc (by omega)
  unfold spec_l01PickInt.f
  rw [e]
  simp only [Option.bind_some]
  rw [if_pos r0, if_pos r1]
  exact ⟨_, _, _, rfl, rd_mem r0 r1, c⟩

/-! ### spec_l04Int -/
theorem spec_l04Int_eq {b : List Int} {i : Int} (h : Int) (hc : Cur b i) : ∃ r i' h', spec_l04Int.f b i h = some (r, i', h') ∧ (-2147483648 ≤ r ∧ r ≤ 2147483647) ∧ Cur b i' := by
  obtain ⟨o, i1, h1, e1, c1⟩ := spec_l01Once_eq h 2 hc (by omega)
  unfold spec_l04Int.f
  rw [e1]
  simp only [Option.bind_some]
  cases o with
  | true =>
    obtain ⟨r, i2, h2, e2, r0, r1, c2⟩ := spec_l01Below_eq h1 200 c1 (by omega)
    rw [if_pos rfl, e2]
    exact ⟨_, _, _, rfl, w32_range _, c2⟩
  | false =>
    obtain ⟨r, i2, h2, e2, m2, c2⟩ := spec_l01PickInt_eq h1 (([0, 67108863, 67108864, (-67108864), (-67108865), 2147483647, (-2147483648), 1000000, (-1)] : List Int)) c1 (by decide)
    rw [if_neg (by simp), e2]
    exact ⟨_, _, _, rfl, w32_range _, c2⟩

/-! ### spec_LetterAt -/
theorem spec_LetterAt_eq (k : Int) : spec_LetterAt.f k = some (if 0 ≤ k ∧ k ≤ 47 then bt lettersB k else 0) := by
  unfold spec_LetterAt.f spec_l02All.f
  simp only [spec_l01In_eq, Option.bind_some, decide_eq_true_eq]
  by_cases h : 0 ≤ k ∧ k ≤ 47
  · rw [if_pos h, if_pos h, if_pos h.1, if_pos (by show k < 48; omega)]; rfl
  · rw [if_neg h, if_neg h]

/-! ### spec_l02Name -/
theorem spec_l02Name_l0 {b : List Int} (n d : Nat) (hn : n ≤ 9) : ∀ (j : Nat) (acc : List UInt8) (i h : Int), j + d = n → acc.length = j → (∀ c ∈ acc, 1 ≤ lo c) → Cur b i →
    ∃ nm i' h', Ev (fun k => spec_l02Name.l0 k (acc.map (fun b => (b.toNat : Int))) (n : Int) (j : Int) b i h) (toB nm, i', h') ∧ nm.length = n ∧ (∀ c ∈ nm, 1 ≤ lo c) ∧ Cur b i' := by
  induction d with
  | zero =>
    intro j acc i h hj ha hl hc
    refine ⟨acc, i, h, Ev.step (fun k => by rw [spec_l02Name.l0]) ?_, by omega, hl, hc⟩
    exact ev_neg (by omega) (ev_ret (by rw [strOf_map]))
  | succ d ih =>
    intro j acc i h hj ha hl hc
    obtain ⟨r, i1, h1, e, r0, r1, c1⟩ := spec_l01Below_eq h 47 hc (by omega)
    obtain ⟨nm, i', h', ev, q1, q2, q3⟩ := ih (j + 1) (acc ++ [letter (1 + r)]) i1 h1 (by omega) (by simp; omega) (by
      intro c hc'
      rcases List.mem_append.1 hc' with hc' | hc'
      · exact hl c hc'
      · rw [List.mem_singleton] at hc'
        rw [hc', lo_letter (by omega) (by omega)]; omega) c1
    refine ⟨nm, i', h', Ev.step (fun k => by rw [spec_l02Name.l0]) ?_, q1, q2, q3⟩
    refine ev_pos (by omega) (ev_bind (ev_eq e) (ev_bind (ev_eq (spec_LetterAt_eq _)) (ev_pos (by simp; omega) ?_)))
    simp only
    rw [w64 (x := 1 + r) (by omega) (by omega), if_pos (by omega), bt_letter (by omega) (by omega), map_snoc, w64 (x := (j : Int) + 1) (by omega) (by omega), show ((j : Int) + 1) = ((j + 1 : Nat) : Int) by omega]
    exact ev
theorem spec_l02Name_ev {b : List Int} {i : Int} (h : Int) (hc : Cur b i) : ∃ nm i' h', Ev (fun k => spec_l02Name.f k b i h) (toB nm, i', h') ∧ okName nm = true ∧ nm.length ≤ 9 ∧ Cur b i' := by
  obtain ⟨r, i1, h1, e1, c1⟩ := spec_l01Once_eq h 2 hc (by omega)
  cases r with
  | true =>
    obtain ⟨s, i2, h2, e2, m2, c2⟩ := spec_l01Pick_eq h1 (([(⟨#[100, 117, 112]⟩ : ByteArray), (⟨#[111, 118, 101, 114]⟩ : ByteArray), (⟨#[115, 113, 117, 97, 114, 101]⟩ : ByteArray), (⟨#[97, 33]⟩ : ByteArray), (⟨#[50, 42]⟩ : ByteArray), (⟨#[103, 111]⟩ : ByteArray), (⟨#[45, 105, 102]⟩ : ByteArray), (⟨#[59]⟩ : ByteArray), (⟨#[63]⟩ : ByteArray), (⟨#[114, 114, 114, 114, 114, 114, 114]⟩ : ByteArray), (⟨#[114, 116, 111, 101, 97, 110, 105]⟩ : ByteArray), (⟨#[119, 119, 119, 119, 119, 119]⟩ : ByteArray), (⟨#[113, 113, 113, 113, 113]⟩ : ByteArray), (⟨#[120]⟩ : ByteArray)] : List ByteArray)) c1 (by decide)
    have hall : (([(⟨#[100, 117, 112]⟩ : ByteArray), (⟨#[111, 118, 101, 114]⟩ : ByteArray), (⟨#[115, 113, 117, 97, 114, 101]⟩ : ByteArray), (⟨#[97, 33]⟩ : ByteArray), (⟨#[50, 42]⟩ : ByteArray), (⟨#[103, 111]⟩ : ByteArray), (⟨#[45, 105, 102]⟩ : ByteArray), (⟨#[59]⟩ : ByteArray), (⟨#[63]⟩ : ByteArray), (⟨#[114, 114, 114, 114, 114, 114, 114]⟩ : ByteArray), (⟨#[114, 116, 111, 101, 97, 110, 105]⟩ : ByteArray), (⟨#[119, 119, 119, 119, 119, 119]⟩ : ByteArray), (⟨#[113, 113, 113, 113, 113]⟩ : ByteArray), (⟨#[120]⟩ : ByteArray)] : List ByteArray)).all (fun s => okName s.data.toList && decide (s.data.toList.length ≤ 9)) = true := by decide +kernel
    have hs := List.all_eq_true.1 hall s m2
    rw [Bool.and_eq_true, decide_eq_true_eq] at hs
    refine ⟨s.data.toList, i2, h2, ?_, hs.1, hs.2, c2⟩
    exact ev_bind (ev_eq e1) (ev_pos rfl (ev_bind (ev_eq e2) (ev_ret (by rw [toB_self]))))
  | false =>
    obtain ⟨r, i2, h2, e2, r0, r1, c2⟩ := spec_l01Below_eq h1 9 c1 (by omega)
    obtain ⟨nm, i3, h3, e3, q1, q2, q3⟩ := spec_l02Name_l0 (b := b) (1 + r).toNat (1 + r).toNat (by omega) 0 [] i2 h2 (by omega) rfl (by simp) c2
    refine ⟨nm, i3, h3, ?_, (okName_iff nm).2 ⟨by omega, by omega, q2⟩, by omega, q3⟩
    refine ev_bind (ev_eq e1) (ev_neg (by simp) (ev_bind (ev_eq e2) ?_))
    simp only
    rw [w64 (x := 1 + r) (by omega) (by omega), show (1 + r : Int) = (((1 + r).toNat : Nat) : Int) by omega]
    exact e3

/-! ### spec_l04Some -/
theorem spec_l04Some_ev {b : List Int} {i : Int} (h : Int) (hc : Cur b i) : ∃ (it : It) (i' h' : Int), Ev (fun k => spec_l04Some.f k b i h) (it.kind, toB it.name, it.n, it.hex, it.raw, i', h') ∧ (-2147483648 ≤ it.n ∧ it.n ≤ 2147483647) ∧ it.raw = 0 ∧ it.name.length ≤ 9 ∧ Cur b i' := by
  obtain ⟨q, i1, h1, e1, q0, q1, c1⟩ := spec_l01Below_eq h 8 hc (by omega)
  by_cases g0 : q = 0
  · obtain ⟨n, i2, h2, e2, hn, c2⟩ := spec_l04Int_eq h1 c1
    obtain ⟨o, i3, h3, e3, c3⟩ := spec_l01Once_eq h2 3 c2 (by omega)
    exact ⟨⟨7, [], n, o, 0⟩, i3, h3, ev_bind (ev_eq e1) (ev_pos g0 (ev_bind (ev_eq e2) (ev_bind (ev_eq e3) (ev_ret rfl)))), hn, rfl, by simp, c3⟩
  by_cases g1 : q = 1
  · obtain ⟨n, i2, h2, e2, hn, c2⟩ := spec_l04Int_eq h1 c1
    obtain ⟨o, i3, h3, e3, c3⟩ := spec_l01Once_eq h2 3 c2 (by omega)
    exact ⟨⟨8, [], n, o, 0⟩, i3, h3, ev_bind (ev_eq e1) (ev_neg g0 (ev_pos g1 (ev_bind (ev_eq e2) (ev_bind (ev_eq e3) (ev_ret rfl))))), hn, rfl, by simp, c3⟩
  by_cases g2 : q = 2
  · obtain ⟨s, i2, h2, e2, m2, c2⟩ := spec_l01Pick_eq h1 (([(⟨#[120]⟩ : ByteArray), (⟨#[97, 116]⟩ : ByteArray), (⟨#[113, 113, 113, 113]⟩ : ByteArray), (⟨#[116, 101, 110]⟩ : ByteArray)] : List ByteArray)) c1 (by decide)
    obtain ⟨n, i3, h3, e3, hn, c3⟩ := spec_l04Int_eq h2 c2
    have hall : (([(⟨#[120]⟩ : ByteArray), (⟨#[97, 116]⟩ : ByteArray), (⟨#[113, 113, 113, 113]⟩ : ByteArray), (⟨#[116, 101, 110]⟩ : ByteArray)] : List ByteArray)).all (fun s => decide (s.data.toList.length ≤ 9)) = true := by decide +kernel
    have hs := List.all_eq_true.1 hall s m2
    exact ⟨⟨9, s.data.toList, n, false, 0⟩, i3, h3, ev_bind (ev_eq e1) (ev_neg g0 (ev_neg g1 (ev_pos g2 (ev_bind (ev_eq e2) (ev_bind (ev_eq e3) (ev_ret (by simp only; rw [toB_self]))))))), hn, rfl, by simpa using hs, c3⟩
  · obtain ⟨t, i2, h2, e2, t0, t1, c2⟩ := spec_l01Below_eq h1 6 c1 (by omega)
    obtain ⟨nm, i3, h3, e3, o3, l3, c3⟩ := spec_l02Name_ev (b := b) h2 c2
    exact ⟨⟨wrap64 (1 + t), nm, 0, false, 0⟩, i3, h3, ev_bind (ev_eq e1) (ev_neg g0 (ev_neg g1 (ev_neg g2 (ev_bind (ev_eq e2) (ev_bind e3 (ev_ret rfl)))))), by simp, rfl, l3, c3⟩

/-! ### spec_l01Word -/
theorem spec_l01Word_eq {b : List Int} {i : Int} (h : Int) (hc : Cur b i) : ∃ r i' h', spec_l01Word.f b i h = some (r, i', h') ∧ (0 ≤ r ∧ r ≤ 4294967295) ∧ Cur b i' := by
  obtain ⟨q, i1, h1, e1, q0, q1, c1⟩ := spec_l01Below_eq h 4 hc (by omega)
  unfold spec_l01Word.f
  rw [e1]
  simp only [Option.bind_some]
  by_cases g0 : q = 0
  · obtain ⟨r, i2, h2, e2, m2, c2⟩ := spec_l01PickInt_eq h1 (([0, 1, 2, 31, 32, 255, 256, 2147483647, 2147483648, 4294967295, 4294967294] : List Int)) c1 (by decide)
    rw [if_pos g0, e2]
    exact ⟨_, _, _, rfl, by simp only; omega, c2⟩
  by_cases g1 : q = 1
  · obtain ⟨r, i2, h2, e2, r0, r1, c2⟩ := spec_l01Below_eq h1 300 c1 (by omega)
    rw [if_neg g0, if_pos g1, e2]
    exact ⟨_, _, _, rfl, by simp only; omega, c2⟩
  · obtain ⟨r, i2, h2, e2, r0, r1, c2⟩ := spec_l01Below_eq h1 65536 c1 (by omega)
    obtain ⟨s, i3, h3, e3, s0, s1, c3⟩ := spec_l01Below_eq h2 65536 c2 (by omega)
    rw [if_neg g0, if_neg g1, e2]
    simp only [Option.bind_some]
    rw [e3]
    exact ⟨_, _, _, rfl, by simp only; omega, c3⟩

/-! ### spec_l04Cells -/
theorem w64_succ {j : Nat} (h : j ≤ 1000000) : wrap64 ((j : Int) + 1) = ((j + 1 : Nat) : Int) := by rw [w64 (by omega) (by omega)]; omega
theorem spec_l04Cells_l0 {b : List Int} (n d : Nat) (hn : n ≤ 13) : ∀ (j : Nat) (acc : List Int) (i h : Int), j + d = n → acc.length ≤ 26 * j → (∀ x ∈ acc, 0 ≤ x ∧ x ≤ 4294967295) → Cur b i →
    ∃ r i' h', Ev (fun k => spec_l04Cells.l0 k acc (n : Int) (j : Int) b i h) (r, i', h') ∧ r.length ≤ 338 ∧ (∀ x ∈ r, 0 ≤ x ∧ x ≤ 4294967295) ∧ Cur b i' := by
  induction d with
  | zero =>
    intro j acc i h hj ha hr hc
    by_cases h64 : (acc.length : Int) > 64
    · obtain ⟨o, i1, h1, e, c1⟩ := spec_l01Once_eq h 6 hc (by omega)
      cases o with
      | true =>
        refine ⟨acc, i1, h1, Ev.step (fun k => by rw [spec_l04Cells.l0]) ?_, by omega, hr, c1⟩
        exact ev_neg (by omega) (ev_pos h64 (ev_bind (ev_eq e) (ev_pos rfl (ev_ret rfl))))
      | false =>
        refine ⟨acc.take 64, i1, h1, Ev.step (fun k => by rw [spec_l04Cells.l0]) ?_, by rw [List.length_take]; omega, fun x hx => hr x (List.mem_of_mem_take hx), c1⟩
        exact ev_neg (by omega) (ev_pos h64 (ev_bind (ev_eq e) (ev_neg (by simp) (ev_pos (by omega) (ev_ret rfl)))))
    · refine ⟨acc, i, h, Ev.step (fun k => by rw [spec_l04Cells.l0]) ?_, by omega, hr, hc⟩
      exact ev_neg (by omega) (ev_neg h64 (ev_ret rfl))
  | succ d ih =>
    intro j acc i h hj ha hr hc
    obtain ⟨it, i1, h1, e1, hn1, hraw, hnm, c1⟩ := spec_l04Some_ev h hc
    have ec := spec_CellsOf_ev it hn1
    have hlen := cellsOf_length it
    have hrng := cellsOf_range it (by omega)
    obtain ⟨q, i2, h2, e2, q0, q1, c2⟩ := spec_l01Below_eq h1 9 c1 (by omega)
    have hall : ∀ x ∈ acc ++ cellsOf it, 0 ≤ x ∧ x ≤ 4294967295 := fun x hx => (List.mem_append.1 hx).elim (hr x) (hrng x)
    have hsz : (acc ++ cellsOf it).length ≤ 26 * j + 25 := by rw [List.length_append]; omega
    have hj6 : j ≤ 1000000 := by omega
    have more : ∀ (v i' h' : Int), 0 ≤ v ∧ v ≤ 4294967295 → Cur b i' → ∃ r i'' h'', Ev (fun k => spec_l04Cells.l0 k ((acc ++ cellsOf it) ++ [v]) (n : Int) (wrap64 ((j : Int) + 1)) b i' h') (r, i'', h'') ∧ r.length ≤ 338 ∧ (∀ x ∈ r, 0 ≤ x ∧ x ≤ 4294967295) ∧ Cur b i'' := by
      intro v i' h' hv hc'
      rw [w64_succ hj6]
      refine ih (j + 1) _ i' h' (by omega) (by rw [List.length_append, List.length_singleton]; omega) (fun x hx => ?_) hc'
      rcases List.mem_append.1 hx with hx | hx
      · exact hall x hx
      · rw [List.mem_singleton] at hx; rw [hx]; exact hv
    by_cases g0 : q = 0
    · obtain ⟨v, i3, h3, e3, hv, c3⟩ := spec_l01Word_eq h2 c2
      obtain ⟨r, i', h', e, p⟩ := more v i3 h3 hv c3
      refine ⟨r, i', h', Ev.step (fun k => by rw [spec_l04Cells.l0]) ?_, p⟩
      exact ev_pos (by omega) (ev_bind e1 (ev_bind ec (ev_pos (by omega) (ev_some (ev_bind (ev_eq e2) (ev_pos g0 (ev_bind (ev_eq e3) (ev_pos (by omega) e))))))))
    by_cases g1 : q = 1
    · obtain ⟨r, i', h', e, p⟩ := more 0 i2 h2 (by omega) c2
      refine ⟨r, i', h', Ev.step (fun k => by rw [spec_l04Cells.l0]) ?_, p⟩
      exact ev_pos (by omega) (ev_bind e1 (ev_bind ec (ev_pos (by omega) (ev_some (ev_bind (ev_eq e2) (ev_neg g0 (ev_pos g1 (ev_pos (by omega) e))))))))
    by_cases g2 : q = 2
    · obtain ⟨v, i3, h3, e3, v0, v1, c3⟩ := spec_l01Below_eq h2 4096 c2 (by omega)
      obtain ⟨r, i', h', e, p⟩ := more ((v % 4294967296 * 16) % 4294967296) i3 h3 (by omega) c3
      refine ⟨r, i', h', Ev.step (fun k => by rw [spec_l04Cells.l0]) ?_, p⟩
      exact ev_pos (by omega) (ev_bind e1 (ev_bind ec (ev_pos (by omega) (ev_some (ev_bind (ev_eq e2) (ev_neg g0 (ev_neg g1 (ev_pos g2 (ev_bind (ev_eq e3) (ev_pos (by omega) e))))))))))
    by_cases g3 : q = 3
    · obtain ⟨v, i3, h3, e3, m3, c3⟩ := spec_l01PickInt_eq h2 (([2, 18, 5, 34, 12] : List Int)) c2 (by decide)
      obtain ⟨r, i', h', e, p⟩ := more (v % 4294967296) i3 h3 (by omega) c3
      refine ⟨r, i', h', Ev.step (fun k => by rw [spec_l04Cells.l0]) ?_, p⟩
      exact ev_pos (by omega) (ev_bind e1 (ev_bind ec (ev_pos (by omega) (ev_some (ev_bind (ev_eq e2) (ev_neg g0 (ev_neg g1 (ev_neg g2 (ev_pos g3 (ev_bind (ev_eq e3) (ev_pos (by omega) e)))))))))))
    · obtain ⟨r, i', h', e, p⟩ := ih (j + 1) (acc ++ cellsOf it) i2 h2 (by omega) (by omega) hall c2
      rw [← w64_succ hj6] at e
      refine ⟨r, i', h', Ev.step (fun k => by rw [spec_l04Cells.l0]) ?_, p⟩
      exact ev_pos (by omega) (ev_bind e1 (ev_bind ec (ev_pos (by omega) (ev_some (ev_bind (ev_eq e2) (ev_neg g0 (ev_neg g1 (ev_neg g2 (ev_neg g3 e)))))))))
theorem spec_l04Cells_ev {b : List Int} {i : Int} (h : Int) (hc : Cur b i) : ∃ r i' h', Ev (fun k => spec_l04Cells.f k b i h) (r, i', h') ∧ r.length ≤ 338 ∧ (∀ x ∈ r, 0 ≤ x ∧ x ≤ 4294967295) ∧ Cur b i' := by
  obtain ⟨n, i1, h1, e1, n0, n1, c1⟩ := spec_l01Below_eq h 14 hc (by omega)
  obtain ⟨r, i', h', e, p⟩ := spec_l04Cells_l0 (b := b) n.toNat n.toNat (by omega) 0 [] i1 h1 (by omega) (by simp) (by simp) c1
  rw [show ((n.toNat : Nat) : Int) = n by omega] at e
  exact ⟨r, i', h', ev_bind (ev_eq e1) e, p⟩

/-! ### spec_NewStore -/
theorem spec_NewStore_eq (n : Int) : spec_NewStore.f n = some (newStore n) := by
  unfold spec_NewStore.f newStore
  simp only [spec_l01In_eq, Option.bind_some, decide_eq_true_eq]
  by_cases h : 0 ≤ n ∧ n ≤ 12
  · rw [if_pos h, if_pos h, w64 (by omega) (by omega), if_pos (by omega), if_pos (by omega)]
  · rw [if_neg h, if_neg h]

/-! ### spec_l05Make -/
theorem spec_l05Make_l1 {b : List Int} {i h : Int} (n : Nat) (hn : n ≤ 768) (cells : List Int) (hcl : cells.length ≤ 338) (hcr : ∀ x ∈ cells, 0 ≤ x ∧ x ≤ 4294967295) (a : Nat) (ha : a * 64 + 64 ≤ n)
    (next : ∀ ys : List Int, ys.length = n → (∀ x ∈ ys, 0 ≤ x ∧ x ≤ 4294967295) → ∃ r i' h', Ev (fun k => spec_l05Make.l0 k (wrap64 ((a : Int) + 1)) b i h ys) (r, i', h') ∧ r.length = n ∧ (∀ x ∈ r, 0 ≤ x ∧ x ≤ 4294967295) ∧ Cur b i') (d : Nat) :
    ∀ (j : Nat) (ys : List Int), j + d = cells.length → ys.length = n → (∀ x ∈ ys, 0 ≤ x ∧ x ≤ 4294967295) → ∃ r i' h', Ev (fun k => spec_l05Make.l1 k (a : Int) cells (j : Int) b i h ys) (r, i', h') ∧ r.length = n ∧ (∀ x ∈ r, 0 ≤ x ∧ x ≤ 4294967295) ∧ Cur b i' := by
  induction d with
  | zero =>
    intro j ys hj hy hr
    obtain ⟨r, i', h', e, p⟩ := next ys hy hr
    refine ⟨r, i', h', Ev.step (fun k => by rw [spec_l05Make.l1]) ?_, p⟩
    exact ev_neg (by omega) e
  | succ d ih =>
    intro j ys hj hy hr
    by_cases h64 : (j : Int) < 64
    · have hlt : j < cells.length := by omega
      have e1 : wrap64 ((wrap64 ((a : Int) * 64)) + (j : Int)) = ((a * 64 + j : Nat) : Int) := by rw [w64 (x := (a : Int) * 64) (by omega) (by omega), w64 (by omega) (by omega)]; omega
      obtain ⟨r, i', h', e, p⟩ := ih (j + 1) (ys.set (a * 64 + j) cells[j]) (by omega) (by rw [List.length_set]; exact hy) (fun x hx => by
        rcases List.mem_or_eq_of_mem_set hx with hx | hx
        · exact hr x hx
        · rw [hx]; exact hcr _ (List.getElem_mem _))
      refine ⟨r, i', h', Ev.step (fun k => by rw [spec_l05Make.l1]) ?_, p⟩
      rw [e1, w64 (by omega) (by omega), show ((j : Int) + 1) = ((j + 1 : Nat) : Int) by omega, rd_nat hlt, Int.toNat_natCast]
      exact ev_pos (by omega) (ev_pos h64 (ev_pos (by omega) (ev_pos (by omega) (ev_pos (by omega) e))))
    · obtain ⟨r, i', h', e, p⟩ := next ys hy hr
      refine ⟨r, i', h', Ev.step (fun k => by rw [spec_l05Make.l1]) ?_, p⟩
      exact ev_pos (by omega) (ev_neg h64 e)
theorem spec_l05Make_l0 {b : List Int} (n m d : Nat) (hn : n = m * 64) (hm : m ≤ 12) : ∀ (a : Nat) (i h : Int) (ys : List Int), a + d = m → ys.length = n → (∀ x ∈ ys, 0 ≤ x ∧ x ≤ 4294967295) → Cur b i →
    ∃ r i' h', Ev (fun k => spec_l05Make.l0 k (a : Int) b i h ys) (r, i', h') ∧ r.length = n ∧ (∀ x ∈ r, 0 ≤ x ∧ x ≤ 4294967295) ∧ Cur b i' := by
  induction d with
  | zero =>
    intro a i h ys had hy hr hc
    refine ⟨ys, i, h, Ev.step (fun k => by rw [spec_l05Make.l0]) ?_, hy, hr, hc⟩
    exact ev_neg (by rw [w64 (by omega) (by omega)]; omega) (ev_ret rfl)
  | succ d ih =>
    intro a i h ys had hy hr hc
    obtain ⟨cs, i1, h1, e1, hcl, hcr, c1⟩ := spec_l04Cells_ev (b := b) h hc
    obtain ⟨r, i', h', e, p⟩ := spec_l05Make_l1 (b := b) (i := i1) (h := h1) n (by omega) cs hcl hcr a (by omega) (fun zs hz hzr => by
      rw [w64 (by omega) (by omega), show ((a : Int) + 1) = ((a + 1 : Nat) : Int) by omega]
      exact ih (a + 1) i1 h1 zs (by omega) hz hzr c1) cs.length 0 ys (by omega) hy hr
    refine ⟨r, i', h', Ev.step (fun k => by rw [spec_l05Make.l0]) ?_, p⟩
    exact ev_pos (by rw [w64 (by omega) (by omega)]; omega) (ev_bind e1 e)
theorem spec_l05Make_ev {b : List Int} {i : Int} (h : Int) (hc : Cur b i) : ∃ (m : Nat) (r : List Int) (i' h' : Int), Ev (fun k => spec_l05Make.f k b i h) (r, i', h') ∧ 1 ≤ m ∧ m ≤ 3 ∧ r.length = m * 64 ∧ (∀ x ∈ r, 0 ≤ x ∧ x ≤ 4294967295) ∧ Cur b i' := by
  obtain ⟨q, i1, h1, e1, q0, q1, c1⟩ := spec_l01Below_eq h 3 hc (by omega)
  have hns : newStore (1 + q) = List.replicate ((1 + q) * 64).toNat 0 := if_pos (by omega)
  obtain ⟨r, i', h', e, p1, p2, p3⟩ := spec_l05Make_l0 (b := b) ((1 + q).toNat * 64) (1 + q).toNat (1 + q).toNat rfl (by omega) 0 i1 h1 (newStore (1 + q)) (by omega) (by rw [hns, List.length_replicate]; omega) (by rw [hns]; intro x hx; rw [(List.mem_replicate.1 hx).2]; omega) c1
  refine ⟨(1 + q).toNat, r, i', h', ev_bind (ev_eq e1) ?_, by omega, by omega, p1, p2, p3⟩
  simp only
  rw [w64 (by omega) (by omega)]
  exact ev_bind (ev_eq (spec_NewStore_eq _)) e

/-! ### spec_l05Any -/
theorem spec_l05Any_ev {b : List Int} {i : Int} (h : Int) (hc : Cur b i) : ∃ (r : List Int) (i' h' : Int), Ev (fun k => spec_l05Any.f k b i h) (r, i', h') ∧ r.length ≤ 832 ∧ (∀ x ∈ r, 0 ≤ x ∧ x ≤ 4294967295) ∧ Cur b i' := by
  obtain ⟨m, s, i1, h1, e1, m1, m3, hl, hr, c1⟩ := spec_l05Make_ev h hc
  obtain ⟨q, i2, h2, e2, q0, q1, c2⟩ := spec_l01Below_eq h1 12 c1 (by omega)
  by_cases g0 : q = 0
  · refine ⟨s ++ [7], i2, h2, ev_bind e1 (ev_bind (ev_eq e2) (ev_pos g0 (ev_pos (by simp only; omega) (ev_ret rfl)))), by rw [List.length_append, List.length_singleton]; omega, fun x hx => ?_, c2⟩
    rcases List.mem_append.1 hx with hx | hx
    · exact hr x hx
    · rw [List.mem_singleton] at hx; omega
  by_cases g1 : q = 1
  · obtain ⟨v, i3, h3, e3, v0, v1, c3⟩ := spec_l01Below_eq h2 3 c2 (by omega)
    have ew : wrap64 (64 * (wrap64 (11 + v))) = 64 * (11 + v) := by rw [w64 (x := 11 + v) (by omega) (by omega), w64 (by omega) (by omega)]
    refine ⟨List.replicate (64 * (11 + v)).toNat 0, i3, h3, ev_bind e1 (ev_bind (ev_eq e2) (ev_neg g0 (ev_pos g1 (ev_bind (ev_eq e3) ?_)))), by rw [List.length_replicate]; omega, fun x hx => by rw [(List.mem_replicate.1 hx).2]; omega, c3⟩
    simp only
    rw [ew]
    exact ev_pos (by omega) (ev_pos (by omega) (ev_ret rfl))
  by_cases g2 : q = 2
  · exact ⟨[], i2, h2, ev_bind e1 (ev_bind (ev_eq e2) (ev_neg g0 (ev_neg g1 (ev_pos g2 (ev_ret rfl))))), by simp, by simp, c2⟩
  · exact ⟨s, i2, h2, ev_bind e1 (ev_bind (ev_eq e2) (ev_neg g0 (ev_neg g1 (ev_neg g2 (ev_ret rfl))))), by omega, hr, c2⟩

/-! ### spec_DrawPutBlock -/
theorem spec_DrawPutBlock_ev (l : List Int) (hl : l.length ≤ 1048576) : ∃ s b cs, Ev (fun k => spec_DrawPutBlock.f k l) (s, b, cs) ∧ s.length ≤ 832 ∧ cs.length ≤ 338 := by
  obtain ⟨h, e⟩ := spec_l01New_ev l hl
  obtain ⟨r, i1, h1, e2, p1, p2, c1⟩ := spec_l05Any_ev (b := l) (i := 0) h ⟨hl, by omega, by omega⟩
  obtain ⟨q, i2, h2, e3, q0, q1, c2⟩ := spec_l01Below_eq h1 5 c1 (by omega)
  obtain ⟨cs, i3, h3, e4, p3, p4, c3⟩ := spec_l04Cells_ev (b := l) (i := i2) h2 c2
  exact ⟨_, _, _, ev_bind e (ev_bind e2 (ev_bind (ev_eq e3) (ev_bind e4 (ev_ret rfl)))), p1, p3⟩

/-! ### spec_StoreOk -/
theorem spec_StoreOk_eq (l : List Int) : spec_StoreOk.f l = some (decide ((l.length : Int) % 64 = 0 ∧ (l.length : Int) ≤ 768)) := by
  unfold spec_StoreOk.f
  by_cases h : (l.length : Int) % 64 = 0
  · rw [if_pos h]; simp [h]
  · rw [if_neg h]; simp [h]

/-! ### spec_l05Has -/
theorem spec_l05Has_eq (l : List Int) (b : Int) (hl : l.length ≤ 1048576) : spec_l05Has.f l b = some (decide (hasBlock l b)) := by
  unfold spec_l05Has.f
  rw [spec_StoreOk_eq]
  simp only [Option.bind_some]
  rw [w64 (by omega) (by omega)]
  by_cases hh : hasBlock l b
  · rw [decide_eq_true hh]
    obtain ⟨h, h2, h3⟩ := hh
    rw [if_pos (decide_eq_true h), if_pos h2, decide_eq_true h3]
  · rw [decide_eq_false hh]
    by_cases h : (l.length : Int) % 64 = 0 ∧ (l.length : Int) ≤ 768
    · rw [if_pos (decide_eq_true h)]
      by_cases h2 : b ≥ 0
      · rw [if_pos h2, decide_eq_false (fun x => hh ⟨h, h2, x⟩)]
      · rw [if_neg h2]
    · rw [if_neg (by simpa using h)]

/-! ### spec_PutBlock -/
theorem spec_PutBlock_l0 (l cs : List Int) (b : Int) (hb : 0 ≤ b ∧ (b + 1) * 64 ≤ (l.length : Int) ∧ l.length ≤ 768) (hc : cs.length ≤ 64) (d : Nat) : ∀ i : Nat, i + d = 64 →
    Ev (fun k => spec_PutBlock.l0 k b cs (l.take (b * 64).toNat ++ ((fill cs).take i ++ l.drop ((b * 64).toNat + i))) (i : Int)) (putCells l (b * 64).toNat cs, true) := by
  have hv := fill_length hc
  induction d with
  | zero =>
    intro i hi
    have : i = 64 := by omega
    subst this
    refine Ev.step (fun k => by rw [spec_PutBlock.l0]) ?_
    refine ev_neg (by omega) (ev_ret ?_)
    rw [List.take_of_length_le (l := fill cs) (by omega)]
    rfl
  | succ d ih =>
    intro i hi
    have next := ih (i + 1) (by omega)
    have hlt : i < 64 := by omega
    have hlen : (l.take (b * 64).toNat ++ ((fill cs).take i ++ l.drop ((b * 64).toNat + i))).length = l.length := by
      rw [List.length_append, List.length_append, List.length_take, List.length_take, List.length_drop]; omega
    have ei : wrap64 ((wrap64 (b * 64)) + (i : Int)) = (((b * 64).toNat + i : Nat) : Int) := by rw [w64 (x := b * 64) (by omega) (by omega), w64 (by omega) (by omega)]; omega
    refine Ev.step (fun k => by rw [spec_PutBlock.l0]) ?_
    rw [ei, Int.toNat_natCast, hlen]
    clear ei
    rw [mid_set 0 hlt hv (by omega)]
    rw [List.take_succ_eq_append_getElem (by omega), fill_at hc hlt] at next
    refine ev_pos (by omega) (ev_pos (by omega) (ev_pos (by omega) (ev_some ?_)))
    rw [w64 (x := (i : Int) + 1) (by omega) (by omega), show ((i : Int) + 1) = ((i + 1 : Nat) : Int) by omega]
    by_cases hic : i < cs.length
    · rw [dif_pos hic] at next
      refine ev_pos (by omega) (ev_pos (by omega) ?_)
      rw [rd_nat hic, ← mid_set 0 hlt hv (by omega), List.set_set, mid_set cs[i] hlt hv (by omega)]
      exact next
    · rw [dif_neg hic] at next
      exact ev_neg (by omega) next
theorem spec_PutBlock_ev (l : List Int) (b : Int) (cs : List Int) (hl : l.length ≤ 1048576) : Ev (fun k => spec_PutBlock.f k l b cs) (putBlock l b cs) := by
  refine ev_bind (ev_eq (spec_l05Has_eq l b hl)) ?_
  have no : ¬ (hasBlock l b ∧ cs.length ≤ 64) → Ev (fun k => spec_PutBlock.j0 k b cs true l) (putBlock l b cs) := by
    intro h
    refine Ev.step (fun k => by rw [spec_PutBlock.j0]) ?_
    exact ev_pos rfl (ev_ret (if_neg h).symm)
  by_cases h : hasBlock l b
  · refine ev_pos (decide_eq_true h) ?_
    by_cases hc : cs.length ≤ 64
    · rw [decide_eq_false (by omega)]
      have e : putBlock l b cs = (putCells l (b * 64).toNat cs, true) := if_pos ⟨h, hc⟩
      have hb := hasBlock_room h
      have key := spec_PutBlock_l0 l cs b hb hc 64 0 rfl
      rw [List.take_zero, List.nil_append, Nat.add_zero, List.take_append_drop] at key
      rw [e]
      refine Ev.step (fun k => by rw [spec_PutBlock.j0]) ?_
      exact ev_neg (by simp) (ev_some (ev_pos (by simp only [List.length_nil]; omega) key))
    · rw [decide_eq_true (by omega)]
      exact no (fun g => hc g.2)
  · exact ev_neg (by simpa using h) (no (fun g => h g.1))

/-! ### FnBlocks -/
theorem laws_FnBlocks_l0 (s cs : List Int) (b : Int) (hs : s.length ≤ 832) (hb : hasBlock s b) (hc : cs.length ≤ 64) (m : Nat) (hm : s.length = m * 64) (d : Nat) : ∀ i : Nat, i + d = m → Ev (fun k => laws_FnBlocks.l0 k b cs (i : Int) s (putCells s (b * 64).toNat cs)) true := by
  have hr := hasBlock_room hb
  have hpl : (putCells s (b * 64).toNat cs).length = s.length := putCells_length hc (by omega)
  have hw : wrap64 ((s.length : Int) / 64) = (m : Int) := by rw [w64 (by omega) (by omega)]; omega
  have hbs := blockAt_put hc hb
  have hot := fun i hi hne => blockAt_other (i := i) hc hb hi hne
  have hbt : hasBlock (putCells s (b * 64).toNat cs) b := hasBlock_of_length hpl.symm hb
  generalize putCells s (b * 64).toNat cs = t at hpl hbs hot hbt
  induction d with
  | zero =>
    intro i hi
    refine Ev.step (fun k => by rw [laws_FnBlocks.l0]) ?_
    rw [hw]
    have hX := blockAt_length hbt
    have h0 : hasBlock t 0 := by
      obtain ⟨a1, a2, a3⟩ := hbt
      exact ⟨a1, Int.le_refl _, Int.lt_of_le_of_lt a2 a3⟩
    have e1 : copyBlock t b 0 = (putCells t ((0 : Int) * 64).toNat (blockAt t b), true) := by
      rw [copyBlock, if_pos hbt, putBlock, if_pos ⟨h0, by omega⟩]
    have hu := putCells_length (l := t) (o := ((0 : Int) * 64).toNat) (cs := blockAt t b) (by omega) (by omega)
    have e2 : blockOf (putCells t ((0 : Int) * 64).toNat (blockAt t b)) 0 = (fill cs, true) := by
      rw [blockOf, if_pos (hasBlock_of_length hu.symm h0), blockAt_put (by omega) h0, fill_whole hX, hbs]
    refine ev_neg (by omega) (ev_bind (ev_eq (impl_CopyBlock_eq t b 0 (by omega))) ?_)
    rw [e1]
    refine ev_bind (ev_eq (impl_BlockOf_eq _ 0 (show (putCells t ((0 : Int) * 64).toNat (blockAt t b)).length ≤ 1048576 by omega))) ?_
    rw [e2]
    refine ev_pos rfl (ev_pos rfl (ev_bind (laws_padded_ev cs (by omega)) (ev_bind (laws_sameCells_ev _ _ (by simp only [fill_length hc]; omega)) (ev_pos (decide_eq_true rfl) (ev_ret ?_)))))
    rw [hpl]; simp
  | succ d ih =>
    intro i hi
    have next := ih (i + 1) (by omega)
    have hsi : hasBlock s (i : Int) := by
      obtain ⟨a1, a2, a3⟩ := hb
      refine ⟨a1, by omega, by omega⟩
    have hti : hasBlock t (i : Int) := hasBlock_of_length hpl.symm hsi
    refine Ev.step (fun k => by rw [laws_FnBlocks.l0]) ?_
    rw [hw]
    refine ev_pos (by omega) (ev_bind (ev_eq (impl_BlockOf_eq s _ (by omega))) (ev_bind (ev_eq (impl_BlockOf_eq t _ (by omega))) ?_))
    rw [show blockOf s (i : Int) = (blockAt s (i : Int), true) from if_pos hsi, show blockOf t (i : Int) = (blockAt t (i : Int), true) from if_pos hti]
    rw [w64 (by omega) (by omega), show ((i : Int) + 1) = ((i + 1 : Nat) : Int) by omega]
    refine ev_pos rfl (ev_pos rfl ?_)
    have hlt := blockAt_length hti
    have hls := blockAt_length hsi
    by_cases e : (i : Int) = b
    · refine ev_pos e (ev_bind (laws_padded_ev cs (by omega)) (ev_bind (laws_sameCells_ev _ _ (by simp only; omega)) (ev_pos (decide_eq_true ?_) next)))
      rw [e]; exact hbs
    · refine ev_neg e (ev_bind (laws_sameCells_ev _ _ (by simp only; omega)) (ev_pos (decide_eq_true ?_) next))
      exact (hot i (by omega) e).symm
theorem FnBlocks : laws_FnBlocks.Pure := by
  intro l hl hz hw
  refine Ev.rounds (r := true) ?_
  refine ev_bind (ev_eq (laws_big_eq l)) ?_
  by_cases hs : (l.length : Int) > 1048576
  · exact ev_pos (decide_eq_true hs) (ev_ret rfl)
  refine ev_neg (by simpa using hs) ?_
  obtain ⟨s, b, cs, e, p1, p2⟩ := spec_DrawPutBlock_ev l (by omega)
  refine ev_bind e (ev_bind (ev_eq (impl_PutBlock_eq s b cs (show s.length ≤ 1048576 by omega))) (ev_bind (spec_PutBlock_ev s b cs (by omega)) (ev_neg (by simp) ?_)))
  by_cases h : hasBlock s b ∧ cs.length ≤ 64
  · rw [show putBlock s b cs = (putCells s (b * 64).toNat cs, true) from if_pos h]
    have hb := h.1
    have hr := hasBlock_room hb
    exact ev_pos rfl (laws_FnBlocks_l0 s cs b p1 hb h.2 (s.length / 64) (by have := hb.1.1; omega) (s.length / 64) 0 (Nat.zero_add _))
  · rw [show putBlock s b cs = ([], false) from if_neg h]
    exact ev_neg (by simp) (ev_ret rfl)

end Go.Proofs.Ytkkiibjnpkjijaa.Pure
