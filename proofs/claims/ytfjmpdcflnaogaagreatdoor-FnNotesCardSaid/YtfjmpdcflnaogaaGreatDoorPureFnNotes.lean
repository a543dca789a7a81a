/-
The law FnNotes holds of the printed plain functions, for all arguments that the printed bounds allow.
-/
import Derived.Test.YtfjmpdcflnaogaaGreatDoorQFnNotesx1
import Derived.Test.YtfjmpdcflnaogaaGreatDoorQFnNotesx2
import Derived.Test.YtfjmpdcflnaogaaGreatDoorQFnNotesx3
import Derived.Test.YtfjmpdcflnaogaaGreatDoorQFnNotesx4
import Derived.Test.YtfjmpdcflnaogaaGreatDoorQFnNotesx5
import Derived.Test.YtfjmpdcflnaogaaGreatDoorQFnNotesx6
import Derived.Test.YtfjmpdcflnaogaaGreatDoorQFnNotesx7
import Derived.Test.YtfjmpdcflnaogaaGreatDoorQFnNotesx8
import Derived.Test.YtfjmpdcflnaogaaGreatDoorQFnNotesx9
import Derived.Test.YtfjmpdcflnaogaaGreatDoorQFnNotesx10
import Derived.Test.YtfjmpdcflnaogaaGreatDoorTools
import Derived.Test.YtfjmpdcflnaogaaGreatDoorPlainFnNotes
namespace Go.Proofs.YtfjmpdcflnaogaaGreatDoor.Pure
open Go.RowKit Go.Proofs.YtfjmpdcflnaogaaGreatDoor.QFnNotes Go.Proofs.YtfjmpdcflnaogaaGreatDoorW.PrintWords Go.Proofs.YtfjmpdcflnaogaaGreatDoorW.PrintLast Go.Proofs.YtfjmpdcflnaogaaGreatDoorW.PrintMore Go.Proofs.YtfjmpdcflnaogaaGreatDoor.Tools Go.Proofs.YtfjmpdcflnaogaaGreatDoor.Plain
set_option linter.unusedVariables false
theorem spec_LetterOf.mono_l : ∀ k, (∀ y0 y1 y2, LeO (spec_LetterOf.l0 k y0 y1 y2) (spec_LetterOf.l0 (k + 1) y0 y1 y2))
  | 0 => fun _ _ _ r h => by simp [spec_LetterOf.l0] at h
  | k + 1 => by
    have ih0 := spec_LetterOf.mono_l k
    · intro y0 y1 y2
      unfold spec_LetterOf.l0
      repeat' first
      | (with_reducible exact ih0 _ _ _)
      | (with_reducible exact LeO.refl _)
      | (with_reducible exact LeO.none _)
      | (with_reducible refine LeO.ite ?_ ?_)
      | (with_reducible refine LeO.bind ?_ (fun _ => ?_))
      | exact ih0 _ _ _
      | exact LeO.none _
      | refine LeO.ite ?_ ?_
      | refine LeO.bind ?_ (fun _ => ?_)
theorem spec_LetterOf.mono : ∀ a0 k, LeO (spec_LetterOf.f k a0) (spec_LetterOf.f (k + 1) a0) := by
  intro a0 k
  have ih0 := spec_LetterOf.mono_l k
  unfold spec_LetterOf.f
  repeat' first
      | (with_reducible exact ih0 _ _ _)
      | (with_reducible exact LeO.refl _)
      | (with_reducible exact LeO.none _)
      | (with_reducible refine LeO.ite ?_ ?_)
      | (with_reducible refine LeO.bind ?_ (fun _ => ?_))
      | exact ih0 _ _ _
      | exact LeO.none _
      | refine LeO.ite ?_ ?_
      | refine LeO.bind ?_ (fun _ => ?_)

/-! ### laws_big -/
theorem laws_big_eq (l : List Int) : laws_big.f l = some (decide ((l.length : Int) > 1048576)) := rfl

/-! ### spec_l01New -/
theorem spec_l01New_l0 (l : List Int) (hl : l.length ≤ 1048576) (d : Nat) : ∀ (i : Nat) (h : Int), i + d = l.length → ∃ h', Ev (fun k => spec_l01New.l0 k l h (i : Int)) (l, 0, h') := by
  induction d with
  | zero =>
    intro i h hi
    refine ⟨h, Ev.step (fun k => by rw [spec_l01New.l0]) ?_⟩
    exact ev_neg (by omega) (ev_ret rfl)
  | succ d ih =>
    intro i h hi
    by_cases h4 : (i : Int) < 4000
    · obtain ⟨h', e⟩ := ih (i + 1) (Go.bits .and .i64 (wrap64 ((wrap64 ((wrap64 (h * 131)) + (wrap64 (rd l i)))) + 7)) 1073741823) (by omega)
      refine ⟨h', Ev.step (fun k => by rw [spec_l01New.l0]) ?_⟩
      refine ev_pos (by omega) (ev_pos h4 (ev_pos (by omega) ?_))
      rw [w64 (x := (i : Int) + 1) (by omega) (by omega), show ((i : Int) + 1) = ((i + 1 : Nat) : Int) by omega]
      exact e
    · refine ⟨h, Ev.step (fun k => by rw [spec_l01New.l0]) ?_⟩
      exact ev_pos (by omega) (ev_neg h4 (ev_ret rfl))
theorem spec_l01New_ev (l : List Int) (hl : l.length ≤ 1048576) : ∃ h, Ev (fun k => spec_l01New.f k l) (l, 0, h) := spec_l01New_l0 l hl l.length 0 _ (by omega)

/-! ### spec_l01Byte -/
theorem spec_l01Byte_eq {b : List Int} {i : Int} (h : Int) (hc : Cur b i) : ∃ r i' h', spec_l01Byte.f b i h = some (r, i', h') ∧ 0 ≤ r ∧ r ≤ 255 ∧ Cur b i' := by
  obtain ⟨c0, c1, c2⟩ := hc
  unfold spec_l01Byte.f
  by_cases hlt : i < (b.length : Int)
  · rw [if_pos hlt, if_pos c1]
    have := and_255 (wrap64 ((Go.bits .and .i64 (Go.bits .xor .i64 ((wrap64 ((wrap64 (h * 6364136223846793005)) + 1442695040888963407)) / 8589934592) ((wrap64 ((wrap64 (h * 6364136223846793005)) + 1442695040888963407)) / 35184372088832)) 255) + (wrap64 (rd b i))))
    exact ⟨_, _, _, rfl, this.1, this.2, c0, by rw [w64 (by omega) (by omega)]; omega, by rw [w64 (by omega) (by omega)]; omega⟩
  · rw [if_neg hlt]
    have := and_255 (Go.bits .xor .i64 ((wrap64 ((wrap64 (h * 6364136223846793005)) + 1442695040888963407)) / 8589934592) ((wrap64 ((wrap64 (h * 6364136223846793005)) + 1442695040888963407)) / 35184372088832))
    exact ⟨_, _, _, rfl, this.1, this.2, c0, c1, c2⟩

/-! ### spec_l01Below -/
theorem spec_l01Below_eq {b : List Int} {i : Int} (h n : Int) (hc : Cur b i) (hn : 0 < n) : ∃ r i' h', spec_l01Below.f b i h n = some (r, i', h') ∧ 0 ≤ r ∧ r < n ∧ Cur b i' := by
  unfold spec_l01Below.f
  rw [if_neg (by omega)]
  by_cases h2 : n ≤ 256
  · obtain ⟨r, i1, h1, e, r0, r1, c1⟩ := spec_l01Byte_eq h hc
    have := tmod_range r0 hn
    rw [if_pos h2, e]
    simp only [Option.bind_some]
    rw [if_neg (by omega)]
    exact ⟨_, _, _, rfl, this.1, this.2, c1⟩
  · obtain ⟨x, i1, h1, e1, x0, x1, c1⟩ := spec_l01Byte_eq h hc
    obtain ⟨y, i2, h2', e2, y0, y1, c2⟩ := spec_l01Byte_eq h1 c1
    obtain ⟨z, i3, h3, e3, z0, z1, c3⟩ := spec_l01Byte_eq h2' c2
    obtain ⟨v, i4, h4, e4, v0, v1, c4⟩ := spec_l01Byte_eq h3 c3
    rw [if_neg h2, e1]
    simp only [Option.bind_some]
    rw [e2]
    simp only [Option.bind_some]
    rw [e3]
    simp only [Option.bind_some]
    rw [e4]
    simp only [Option.bind_some]
    rw [if_neg (by omega)]
    have e5 : (wrap64 ((wrap64 ((wrap64 ((wrap64 (x * 16777216)) + (wrap64 (y * 65536)))) + (wrap64 (z * 256)))) + v)) = x * 16777216 + y * 65536 + z * 256 + v := by
      rw [w64 (x := x * 16777216) (by omega) (by omega), w64 (x := y * 65536) (by omega) (by omega), w64 (x := z * 256) (by omega) (by omega), w64 (x := x * 16777216 + y * 65536) (by omega) (by omega), w64 (x := x * 16777216 + y * 65536 + z * 256) (by omega) (by omega), w64 (by omega) (by omega)]
    rw [e5]
    have := tmod_range (x := x * 16777216 + y * 65536 + z * 256 + v) (by omega) hn
    exact ⟨_, _, _, rfl, this.1, this.2, c4⟩

/-! ### spec_l04Num -/
theorem spec_l04Num_eq (n : Int) (hex : Bool) (s l : Int) (hn : -2147483648 ≤ n ∧ n ≤ 2147483647) (hs : 0 ≤ s ∧ s ≤ 15) (hl : 0 ≤ l ∧ l ≤ 15) : spec_l04Num.f n hex s l = some (numCells n hex s l) := by
  unfold spec_l04Num.f numCells bitOf
  cases hex
  · simp only [Bool.false_eq_true, if_false]
    by_cases h : -67108864 ≤ n ∧ n ≤ 67108863
    · rw [if_pos h.1, if_pos h.2, if_pos h]
      congr 2; omega
    · rw [if_neg h]
      have e : (0 + l) % 4294967296 = 0 + l := by omega
      rw [e]
      by_cases h1 : n ≥ -67108864
      · rw [if_pos h1, if_neg (by omega)]
      · rw [if_neg h1]
  · simp only [if_true]
    by_cases h : -67108864 ≤ n ∧ n ≤ 67108863
    · rw [if_pos h.1, if_pos h.2, if_pos h]
      congr 2; omega
    · rw [if_neg h]
      have e : (16 + l) % 4294967296 = 16 + l := by omega
      rw [e]
      by_cases h1 : n ≥ -67108864
      · rw [if_pos h1, if_neg (by omega)]
      · rw [if_neg h1]

/-! ### spec_l01In -/
theorem spec_l01In_eq (a b c : Int) : spec_l01In.f a b c = some (decide (b ≤ a ∧ a ≤ c)) := by
  unfold spec_l01In.f
  by_cases h : b ≤ a
  · rw [if_pos h]; simp [h]
  · rw [if_neg h]; simp [h]

/-! ### spec_LetterOf -/
theorem spec_LetterOf_all : ∀ b : UInt8, spec_LetterOf.f 49 (b.toNat : Int) = some (lo b) := all_bytes (by decide +kernel)
theorem spec_LetterOf_ev (b : UInt8) : Ev (fun k => spec_LetterOf.f k (b.toNat : Int)) (lo b) := Ev.of (spec_LetterOf.mono _) (spec_LetterOf_all b)

/-! ### spec_NameOk -/
theorem spec_NameOk_l0 (s : ByteArray) (hs : s.size ≤ 24) (d : Nat) : ∀ i : Nat, i + d = s.size → Ev (fun k => spec_NameOk.l0 k s (i : Int)) ((s.data.toList.drop i).all (fun b => decide (1 ≤ lo b))) := by
  induction d with
  | zero =>
    intro i hi
    refine Ev.step (fun k => by rw [spec_NameOk.l0]) ?_
    refine ev_neg (by omega) (ev_ret ?_)
    rw [List.drop_of_length_le (by rw [← size_eq]; omega)]; rfl
  | succ d ih =>
    intro i hi
    have hlt : i < s.size := by omega
    refine Ev.step (fun k => by rw [spec_NameOk.l0]) ?_
    refine ev_pos (by omega) (ev_pos (by omega) (ev_bind (by rw [bt_at hlt]; exact spec_LetterOf_ev _) ?_))
    rw [drop_cons hlt, List.all_cons]
    by_cases h : 1 ≤ lo s[i]
    · refine ev_neg (by omega) ?_
      rw [w64 (by omega) (by omega), show ((i : Int) + 1) = ((i + 1 : Nat) : Int) by omega, decide_eq_true h, Bool.true_and]
      exact ih (i + 1) (by omega)
    · refine ev_pos (by omega) (ev_ret ?_)
      rw [decide_eq_false h, Bool.false_and]
theorem spec_NameOk_ev (s : ByteArray) : Ev (fun k => spec_NameOk.f k s) (okName s.data.toList) := by
  refine ev_bind (ev_eq (spec_l01In_eq _ _ _)) ?_
  unfold okName
  rw [← size_eq]
  by_cases h : 1 ≤ (s.size : Int) ∧ (s.size : Int) ≤ 24
  · refine ev_pos (decide_eq_true h) ?_
    rw [decide_eq_true (show 1 ≤ s.size by omega), decide_eq_true (show s.size ≤ 24 by omega), Bool.true_and, Bool.true_and]
    exact spec_NameOk_l0 s (by omega) s.size 0 (by omega)
  · refine ev_neg (by simp only [decide_eq_true_eq]; exact h) (ev_ret ?_)
    by_cases h1 : 1 ≤ s.size
    · rw [decide_eq_false (show ¬ s.size ≤ 24 by omega)]; simp
    · rw [decide_eq_false h1]; simp

/-! ### spec_WidthOf -/
theorem spec_WidthOf_eq (k : Int) : spec_WidthOf.f k = some (widthOf k) := by
  unfold spec_WidthOf.f widthOf
  simp only [spec_l01In_eq, Option.bind_some, decide_eq_true_eq]
  by_cases h1 : 0 ≤ k ∧ k ≤ 7
  · rw [if_pos h1, if_pos h1]
  rw [if_neg h1, if_neg h1]
  by_cases h2 : 8 ≤ k ∧ k ≤ 15
  · rw [if_pos h2, if_pos h2]
  rw [if_neg h2, if_neg h2]
  by_cases h3 : 16 ≤ k ∧ k ≤ 47
  · rw [if_pos h3, if_pos h3]
  rw [if_neg h3, if_neg h3]

/-! ### spec_BitsOf -/
theorem spec_BitsOf_eq (k : Int) : spec_BitsOf.f k = some (bitsOf k) := by
  unfold spec_BitsOf.f
  simp only [spec_WidthOf_eq, Option.bind_some]
  rcases width_cases k with ⟨e1, e2, h⟩ | ⟨e1, e2, h⟩ | ⟨e1, e2, h⟩ | ⟨e1, e2, h⟩ <;> rw [e1, e2] <;> simp
  · omega
  · rw [w64 (by omega) (by omega)]; omega
  · rw [w64 (by omega) (by omega)]; omega

/-! ### spec_l03One -/
theorem spec_l03One_l0 (s : ByteArray) (hs : s.size ≤ 1000000) (hb : ∀ b ∈ s.data.toList, 1 ≤ lo b) (d : Nat) : ∀ (i : Nat) (f left : Int), i + d = s.size → 0 ≤ left → left ≤ 28 → 0 ≤ f → f + 2 ^ left.toNat ≤ 268435456 →
    Ev (fun k => spec_l03One.l0 k s f left (i : Int)) (f + (one (s.data.toList.drop i) left).1, (i : Int) + ((one (s.data.toList.drop i) left).2 : Int)) := by
  induction d with
  | zero =>
    intro i f left hi h0 h1 h2 h3
    have := two_pow_pos left.toNat
    refine Ev.step (fun k => by rw [spec_l03One.l0]) ?_
    refine ev_neg (by omega) (ev_ret ?_)
    rw [List.drop_of_length_le (by rw [← size_eq]; omega), one]
    simp; omega
  | succ d ih =>
    intro i f left hi h0 h1 h2 h3
    have hlt : i < s.size := by omega
    have hp := two_pow_pos left.toNat
    have hl1 := hb s[i] (by rw [getB hlt]; exact List.getElem_mem _)
    have hlr := lo_range s[i]
    have w := width_in (k := lo s[i]) (by omega) (by omega)
    rw [drop_cons hlt, one]
    refine Ev.step (fun k => by rw [spec_l03One.l0]) ?_
    refine ev_pos (by omega) (ev_pos (by omega) (ev_bind (by rw [bt_at hlt]; exact spec_LetterOf_ev _) (ev_bind (ev_eq (spec_WidthOf_eq _)) ?_)))
    by_cases hw : widthOf (lo s[i]) > left
    · rw [if_pos hw]
      refine ev_pos hw (ev_ret ?_)
      simp; omega
    · rw [if_neg hw]
      have e : left.toNat = (widthOf (lo s[i])).toNat + (left - widthOf (lo s[i])).toNat := by omega
      have hq := two_pow_pos (left - widthOf (lo s[i])).toNat
      have hm : (bitsOf (lo s[i]) + 1) * 2 ^ (left - widthOf (lo s[i])).toNat ≤ 2 ^ left.toNat := by
        rw [e, Int.pow_add]; exact Int.mul_le_mul_of_nonneg_right (by omega) (by omega)
      rw [Int.add_mul] at hm
      have hn := Int.mul_nonneg w.2.2.1 (show 0 ≤ (2 : Int) ^ (left - widthOf (lo s[i])).toNat by omega)
      have hb7 := two_pow_le (a := (widthOf (lo s[i])).toNat) (b := 7) (by omega)
      refine ev_neg hw (ev_bind (ev_eq (spec_BitsOf_eq _)) (ev_pos (by rw [w64 (by omega) (by omega), wu64 (by omega) (by omega)]; omega) ?_))
      rw [w64 (x := bitsOf (lo s[i])) (by omega) (by omega), w64 (x := left - widthOf (lo s[i])) (by omega) (by omega), wu64 (by omega) (by omega), shl_i64 w.2.2.1 (by omega) (by omega), w64 (by omega) (by omega), w64 (by omega) (by omega), show ((i : Int) + 1) = ((i + 1 : Nat) : Int) by omega]
      refine ev_to (ih (i + 1) _ _ (by omega) (by omega) (by omega) (by omega) (by omega)) ?_
      simp only [Prod.mk.injEq]
      constructor <;> omega
theorem spec_l03One_ev (l : List UInt8) (hl : l.length ≤ 1000000) (hb : ∀ b ∈ l, 1 ≤ lo b) : Ev (fun k => spec_l03One.f k (toB l)) ((one l 28).1, ((one l 28).2 : Int)) := by
  refine ev_to (spec_l03One_l0 (toB l) (by rw [toB_size]; exact hl) hb l.length 0 0 28 (by rw [toB_size]; omega) (by omega) (by omega) (by omega) (by decide)) ?_
  rw [toB_data]; simp

/-! ### spec_Pack -/
theorem spec_Pack_l0 (n : Nat) : ∀ (l : List UInt8) (out : List Int), l.length ≤ n → n ≤ 1000000 → (∀ b ∈ l, 1 ≤ lo b) → out.length + l.length ≤ 1000000 → Ev (fun k => spec_Pack.l0 k (toB l) out) (out ++ packF l.length l) := by
  induction n with
  | zero =>
    intro l out hl hn hb ho
    have : l = [] := List.eq_nil_of_length_eq_zero (by omega)
    subst this
    refine Ev.step (fun k => by rw [spec_Pack.l0]) ?_
    exact ev_pos (by rw [ba_toList]; rfl) (ev_ret (by simp [packF]))
  | succ n ih =>
    intro l out hl hn hb ho
    by_cases h : l = []
    · subst h
      refine Ev.step (fun k => by rw [spec_Pack.l0]) ?_
      exact ev_pos (by rw [ba_toList]; rfl) (ev_ret (by simp [packF]))
    · have h1 := one_pos h (left := 28) (by omega)
      have h2 := one_range l 28 (by omega) (by omega) hb
      refine Ev.step (fun k => by rw [spec_Pack.l0]) ?_
      refine ev_neg (by rw [ba_toList, toB_data]; exact h) (ev_bind (spec_l03One_ev l (by omega) hb) (ev_pos (by omega) (ev_pos (by simp only; omega) (ev_pos (by rw [toB_size]; simp only; omega) ?_))))
      rw [packF_step h, extract_eq, toB_data, toB_size, List.take_of_length_le (by omega)]
      simp only [Int.toNat_natCast]
      refine ev_to (ih (l.drop (one l 28).2) (out ++ [(one l 28).1]) (by rw [List.length_drop]; omega) (by omega) (fun b hb' => hb b (List.mem_of_mem_drop hb')) (by simp only [List.length_append, List.length_drop, List.length_cons, List.length_nil]; omega)) ?_
      simp
theorem spec_Pack_ev (l : List UInt8) : Ev (fun k => spec_Pack.f k (toB l)) (pack l) := by
  refine ev_some (ev_bind (spec_NameOk_ev _) ?_)
  rw [toB_data]
  unfold pack
  by_cases h : okName l = true
  · rw [if_pos h]
    obtain ⟨h1, h2, h3⟩ := (okName_iff l).1 h
    exact ev_pos h (spec_Pack_l0 l.length l [] (by omega) (by omega) h3 (by simp; omega))
  · rw [if_neg h]
    exact ev_neg h (ev_ret rfl)

/-! ### spec_l04Word -/
theorem spec_l04Word_l0 (t : Int) (ht : 0 ≤ t ∧ t ≤ 15) (fs : List Int) (hf : ∀ f ∈ fs, 0 ≤ f ∧ f < 268435456) (hl : fs.length ≤ 24) (d : Nat) : ∀ i : Nat, i + d = fs.length →
    Ev (fun k => spec_l04Word.l0 k t ((word t fs).take i ++ fs.drop i) (i : Int)) (word t fs) := by
  induction d with
  | zero =>
    intro i hi
    refine Ev.step (fun k => by rw [spec_l04Word.l0]) ?_
    have hw := word_length t fs
    refine ev_neg (by rw [List.length_append, List.length_take, List.length_drop]; omega) (ev_ret ?_)
    rw [List.take_of_length_le (by omega), List.drop_of_length_le (by omega), List.append_nil]
  | succ d ih =>
    intro i hi
    have hw := word_length t fs
    have hlt : i < fs.length := by omega
    have hfi := hf fs[i] (List.getElem_mem _)
    have hti : i = ((word t fs).take i).length := by rw [List.length_take]; omega
    have hg := word_getElem t fs i hlt
    refine Ev.step (fun k => by rw [spec_l04Word.l0]) ?_
    refine ev_pos (by rw [List.length_append, List.length_take, List.length_drop]; omega) (ev_pos (by omega) (ev_some ?_))
    rw [List.drop_eq_getElem_cons hlt, rd_mid hti]
    simp only [Int.toNat_natCast]
    rw [set_mid hti, w64 (by omega) (by omega), show ((i : Int) + 1) = ((i + 1 : Nat) : Int) by omega]
    have next := ih (i + 1) (by omega)
    rw [List.take_succ_eq_append_getElem (by rw [hw]; exact hlt), hg, List.append_assoc, List.singleton_append] at next
    by_cases h0 : i = 0
    · refine ev_pos (by omega) ?_
      rw [rd_mid hti, set_mid hti]
      rw [if_pos h0] at next
      rw [show (fs[i] * 16 % 4294967296 + t) % 4294967296 = fs[i] * 16 + t by omega]
      exact next
    · refine ev_neg (by omega) ?_
      rw [if_neg h0] at next
      rw [show fs[i] * 16 % 4294967296 = fs[i] * 16 by omega]
      exact next
theorem spec_l04Word_ev (t : Int) (ht : 0 ≤ t ∧ t ≤ 15) (l : List UInt8) : Ev (fun k => spec_l04Word.f k t (toB l)) (word t (pack l)) := by
  refine ev_bind (spec_Pack_ev l) ?_
  have := spec_l04Word_l0 t ht (pack l) (fun f hf => (pack_fields f hf).2) (pack_length l) (pack l).length 0 (Nat.zero_add _)
  simpa using this

/-! ### spec_l04Tag -/
theorem spec_l04Tag_eq (k : Int) : spec_l04Tag.f k = some (tagOf k) := by
  unfold spec_l04Tag.f tagOf
  repeat' split
  all_goals rfl

/-! ### spec_CellsOf -/
theorem spec_CellsOf_j0 (it : It) (hn : -2147483648 ≤ it.n ∧ it.n ≤ 2147483647) (b : Bool) (hb : b = true ↔ (it.n = 0 ∧ it.hex = false ∧ it.raw = 0)) : Ev (fun k => spec_CellsOf.j0 k b it.kind (toB it.name) it.n it.hex it.raw) (cellsOf it) := by
  obtain ⟨kind, name, n, hex, raw⟩ := it
  simp only at hn hb ⊢
  refine Ev.step (fun k => by rw [spec_CellsOf.j0]) ?_
  by_cases k0 : kind = 0
  · refine ev_pos k0 ?_
    have e : cellsOf ⟨kind, name, n, hex, raw⟩ = if name = [] ∧ n = 0 ∧ hex = false then [raw] else [] := by unfold cellsOf; simp only; rw [if_pos k0]
    rw [e]
    by_cases h1 : name = []
    · refine ev_pos ((toB_nil_iff name).2 h1) ?_
      by_cases h2 : n = 0
      · refine ev_pos h2 ?_
        cases hex with
        | true => exact ev_pos rfl (ev_ret (if_neg (fun h => Bool.noConfusion h.2.2)).symm)
        | false => exact ev_neg (by simp) (ev_ret (if_pos ⟨h1, h2, rfl⟩).symm)
      · exact ev_neg h2 (ev_ret (if_neg (fun h => h2 h.2.1)).symm)
    · exact ev_neg (fun h => h1 ((toB_nil_iff name).1 h)) (ev_ret (if_neg (fun h => h1 h.1)).symm)
  refine ev_neg k0 ?_
  by_cases k7 : kind = 7
  · refine ev_pos k7 ?_
    have e : cellsOf ⟨kind, name, n, hex, raw⟩ = if name = [] ∧ raw = 0 then numCells n hex 8 2 else [] := by unfold cellsOf; simp only; rw [if_neg k0, if_pos k7]
    rw [e]
    by_cases h1 : name = []
    · refine ev_pos ((toB_nil_iff name).2 h1) ?_
      by_cases h2 : raw = 0
      · exact ev_pos h2 (ev_bind (ev_eq (spec_l04Num_eq n hex 8 2 hn (by omega) (by omega))) (ev_ret (if_pos ⟨h1, h2⟩).symm))
      · exact ev_neg h2 (ev_ret (if_neg (fun h => h2 h.2)).symm)
    · exact ev_neg (fun h => h1 ((toB_nil_iff name).1 h)) (ev_ret (if_neg (fun h => h1 h.1)).symm)
  refine ev_neg k7 ?_
  by_cases k8 : kind = 8
  · refine ev_pos k8 ?_
    have e : cellsOf ⟨kind, name, n, hex, raw⟩ = if name = [] ∧ raw = 0 then numCells n hex 6 5 else [] := by unfold cellsOf; simp only; rw [if_neg k0, if_neg k7, if_pos k8]
    rw [e]
    by_cases h1 : name = []
    · refine ev_pos ((toB_nil_iff name).2 h1) ?_
      by_cases h2 : raw = 0
      · exact ev_pos h2 (ev_bind (ev_eq (spec_l04Num_eq n hex 6 5 hn (by omega) (by omega))) (ev_ret (if_pos ⟨h1, h2⟩).symm))
      · exact ev_neg h2 (ev_ret (if_neg (fun h => h2 h.2)).symm)
    · exact ev_neg (fun h => h1 ((toB_nil_iff name).1 h)) (ev_ret (if_neg (fun h => h1 h.1)).symm)
  refine ev_neg k8 ?_
  by_cases k9 : kind = 9
  · have hp := pack_length name
    have hwl := word_length 12 (pack name)
    have e : cellsOf ⟨kind, name, n, hex, raw⟩ = if hex = false ∧ raw = 0 ∧ (pack name).length = 1 then word 12 (pack name) ++ [n % 4294967296] else [] := by unfold cellsOf; simp only; rw [if_neg k0, if_neg k7, if_neg k8, if_pos k9]
    rw [e]
    refine ev_pos k9 (ev_bind (spec_l04Word_ev 12 (by omega) name) ?_)
    by_cases h1 : (pack name).length = 1
    · refine ev_pos (by omega) ?_
      cases hex with
      | true => exact ev_pos rfl (ev_ret (if_neg (fun h => Bool.noConfusion h.1)).symm)
      | false =>
        refine ev_neg (by simp) ?_
        by_cases h2 : raw = 0
        · exact ev_pos h2 (ev_pos (by omega) (ev_ret (if_pos ⟨rfl, h2, h1⟩).symm))
        · exact ev_neg h2 (ev_ret (if_neg (fun h => h2 h.2.1)).symm)
    · exact ev_neg (by omega) (ev_ret (if_neg (fun h => h1 h.2.2)).symm)
  have e : cellsOf ⟨kind, name, n, hex, raw⟩ = if 0 < tagOf kind ∧ n = 0 ∧ hex = false ∧ raw = 0 then word (tagOf kind) (pack name) else [] := by unfold cellsOf; simp only; rw [if_neg k0, if_neg k7, if_neg k8, if_neg k9]
  rw [e]
  refine ev_neg k9 (ev_bind (ev_eq (spec_l04Tag_eq kind)) ?_)
  have ht := tagOf_range kind
  by_cases hp : 0 < tagOf kind
  · refine ev_pos hp ?_
    by_cases hq : n = 0 ∧ hex = false ∧ raw = 0
    · exact ev_pos (hb.2 hq) (ev_bind (spec_l04Word_ev _ (by omega) name) (ev_ret (if_pos ⟨hp, hq⟩).symm))
    · exact ev_neg (fun h => hq (hb.1 h)) (ev_ret (if_neg (fun h => hq h.2)).symm)
  · exact ev_neg hp (ev_ret (if_neg (fun h => hp h.1)).symm)
theorem spec_CellsOf_ev (it : It) (hn : -2147483648 ≤ it.n ∧ it.n ≤ 2147483647) : Ev (fun k => spec_CellsOf.f k it.kind (toB it.name) it.n it.hex it.raw) (cellsOf it) := by
  unfold spec_CellsOf.f
  by_cases h1 : it.n = 0
  · refine ev_pos h1 ?_
    cases h2 : it.hex with
    | true =>
      refine ev_pos rfl ?_
      rw [← h2]
      exact spec_CellsOf_j0 it hn _ (by simp [h2])
    | false =>
      refine ev_neg (by simp) ?_
      rw [← h2]
      exact spec_CellsOf_j0 it hn _ (by simp [h1, h2])
  · exact ev_neg h1 (spec_CellsOf_j0 it hn _ (by simp [h1]))

/-! ### spec_l01Once -/
theorem spec_l01Once_eq {b : List Int} {i : Int} (h n : Int) (hc : Cur b i) (hn : 0 < n) : ∃ r i' h', spec_l01Once.f b i h n = some (r, i', h') ∧ Cur b i' := by
  obtain ⟨r, i', h', e, _, _, c⟩ := spec_l01Below_eq h n hc hn
  unfold spec_l01Once.f
  rw [e]
  exact ⟨_, _, _, rfl, c⟩

/-! ### spec_l01PickInt -/
theorem spec_l01PickInt_eq {b : List Int} {i : Int} (h : Int) (l : List Int) (hc : Cur b i) (hn : 0 < l.length) : ∃ r i' h', spec_l01PickInt.f b i h l = some (r, i', h') ∧ r ∈ l ∧ Cur b i' := by
  obtain ⟨r, i', h', e, r0, r1, c⟩ := spec_l01Below_eq h (l.length : Int) hc (by omega)
  unfold spec_l01PickInt.f
  rw [e]
  simp only [Option.bind_some]
  rw [if_pos r0, if_pos r1]
  exact ⟨_, _, _, rfl, rd_mem r0 r1, c⟩

/-! ### spec_l04Int -/
theorem spec_l04Int_eq {b : List Int} {i : Int} (h : Int) (hc : Cur b i) : ∃ r i' h', spec_l04Int.f b i h = some (r, i', h') ∧ (-2147483648 ≤ r ∧ r ≤ 2147483647) ∧ Cur b i' := by
  obtain ⟨o, i1, h1, e1, c1⟩ := spec_l01Once_eq h 2 hc (by omega)
  unfold spec_l04Int.f
  rw [e1]
  simp only [Option.bind_some]
  cases o with
  | true =>
    obtain ⟨r, i2, h2, e2, r0, r1, c2⟩ := spec_l01Below_eq h1 200 c1 (by omega)
    rw [if_pos rfl, e2]
    exact ⟨_, _, _, rfl, w32_range _, c2⟩
  | false =>
    obtain ⟨r, i2, h2, e2, m2, c2⟩ := spec_l01PickInt_eq h1 (([0, 67108863, 67108864, (-67108864), (-67108865), 2147483647, (-2147483648), 1000000, (-1)] : List Int)) c1 (by decide)
    rw [if_neg (by simp), e2]
    exact ⟨_, _, _, rfl, w32_range _, c2⟩

/-! ### spec_l01Pick -/
theorem spec_l01Pick_eq {b : List Int} {i : Int} (h : Int) (l : List ByteArray) (hc : Cur b i) (hn : 0 < l.length) : ∃ r i' h', spec_l01Pick.f b i h l = some (r, i', h') ∧ r ∈ l ∧ Cur b i' := by
  obtain ⟨r, i', h', e, r0, r1, c⟩ := spec_l01Below_eq h (l.length : Int) hc (by omega)
  unfold spec_l01Pick.f
  rw [e]
  simp only [Option.bind_some]
  rw [if_pos r0, if_pos r1]
  exact ⟨_, _, _, rfl, rdOf_mem r0 r1, c⟩

/-! ### spec_LetterAt -/
theorem spec_LetterAt_eq (k : Int) : spec_LetterAt.f k = some (if 0 ≤ k ∧ k ≤ 47 then bt lettersB k else 0) := by
  unfold spec_LetterAt.f spec_l02All.f
  simp only [spec_l01In_eq, Option.bind_some, decide_eq_true_eq]
  by_cases h : 0 ≤ k ∧ k ≤ 47
  · rw [if_pos h, if_pos h, if_pos h.1, if_pos (by show k < 48; omega)]; rfl
  · rw [if_neg h, if_neg h]

/-! ### spec_l02Name -/
theorem spec_l02Name_l0 {b : List Int} (n d : Nat) (hn : n ≤ 9) : ∀ (j : Nat) (acc : List UInt8) (i h : Int), j + d = n → acc.length = j → (∀ c ∈ acc, 1 ≤ lo c) → Cur b i →
    ∃ nm i' h', Ev (fun k => spec_l02Name.l0 k (acc.map (fun b => (b.toNat : Int))) (n : Int) (j : Int) b i h) (toB nm, i', h') ∧ nm.length = n ∧ (∀ c ∈ nm, 1 ≤ lo c) ∧ Cur b i' := by
  induction d with
  | zero =>
    intro j acc i h hj ha hl hc
    refine ⟨acc, i, h, Ev.step (fun k => by rw [spec_l02Name.l0]) ?_, by omega, hl, hc⟩
    exact ev_neg (by omega) (ev_ret (by rw [strOf_map]))
  | succ d ih =>
    intro j acc i h hj ha hl hc
    obtain ⟨r, i1, h1, e, r0, r1, c1⟩ := spec_l01Below_eq h 47 hc (by omega)
    obtain ⟨nm, i', h', ev, q1, q2, q3⟩ := ih (j + 1) (acc ++ [letter (1 + r)]) i1 h1 (by omega) (by simp; omega) (by
      intro c hc'
      rcases List.mem_append.1 hc' with hc' | hc'
      · exact hl c hc'
      · rw [List.mem_singleton] at hc'
        rw [hc', lo_letter (by omega) (by omega)]; omega) c1
    refine ⟨nm, i', h', Ev.step (fun k => by rw [spec_l02Name.l0]) ?_, q1, q2, q3⟩
    refine ev_pos (by omega) (ev_bind (ev_eq e) (ev_bind (ev_eq (spec_LetterAt_eq _)) (ev_pos (by simp; omega) ?_)))
    simp only
    rw [w64 (x := 1 + r) (by omega) (by omega), if_pos (by omega), bt_letter (by omega) (by omega), map_snoc, w64 (x := (j : Int) + 1) (by omega) (by omega), show ((j : Int) + 1) = ((j + 1 : Nat) : Int) by omega]
    exact ev
theorem spec_l02Name_ev {b : List Int} {i : Int} (h : Int) (hc : Cur b i) : ∃ nm i' h', Ev (fun k => spec_l02Name.f k b i h) (toB nm, i', h') ∧ okName nm = true ∧ nm.length ≤ 9 ∧ Cur b i' := by
  obtain ⟨r, i1, h1, e1, c1⟩ := spec_l01Once_eq h 2 hc (by omega)
  cases r with
  | true =>
    obtain ⟨s, i2, h2, e2, m2, c2⟩ := spec_l01Pick_eq h1 (([(⟨#[100, 117, 112]⟩ : ByteArray), (⟨#[111, 118, 101, 114]⟩ : ByteArray), (⟨#[115, 113, 117, 97, 114, 101]⟩ : ByteArray), (⟨#[97, 33]⟩ : ByteArray), (⟨#[50, 42]⟩ : ByteArray), (⟨#[103, 111]⟩ : ByteArray), (⟨#[45, 105, 102]⟩ : ByteArray), (⟨#[59]⟩ : ByteArray), (⟨#[63]⟩ : ByteArray), (⟨#[114, 114, 114, 114, 114, 114, 114]⟩ : ByteArray), (⟨#[114, 116, 111, 101, 97, 110, 105]⟩ : ByteArray), (⟨#[119, 119, 119, 119, 119, 119]⟩ : ByteArray), (⟨#[113, 113, 113, 113, 113]⟩ : ByteArray), (⟨#[120]⟩ : ByteArray)] : List ByteArray)) c1 (by decide)
    have hall : (([(⟨#[100, 117, 112]⟩ : ByteArray), (⟨#[111, 118, 101, 114]⟩ : ByteArray), (⟨#[115, 113, 117, 97, 114, 101]⟩ : ByteArray), (⟨#[97, 33]⟩ : ByteArray), (⟨#[50, 42]⟩ : ByteArray), (⟨#[103, 111]⟩ : ByteArray), (⟨#[45, 105, 102]⟩ : ByteArray), (⟨#[59]⟩ : ByteArray), (⟨#[63]⟩ : ByteArray), (⟨#[114, 114, 114, 114, 114, 114, 114]⟩ : ByteArray), (⟨#[114, 116, 111, 101, 97, 110, 105]⟩ : ByteArray), (⟨#[119, 119, 119, 119, 119, 119]⟩ : ByteArray), (⟨#[113, 113, 113, 113, 113]⟩ : ByteArray), (⟨#[120]⟩ : ByteArray)] : List ByteArray)).all (fun s => okName s.data.toList && decide (s.data.toList.length ≤ 9)) = true := by decide +kernel
    have hs := List.all_eq_true.1 hall s m2
    rw [Bool.and_eq_true, decide_eq_true_eq] at hs
    refine ⟨s.data.toList, i2, h2, ?_, hs.1, hs.2, c2⟩
    exact ev_bind (ev_eq e1) (ev_pos rfl (ev_bind (ev_eq e2) (ev_ret (by rw [toB_self]))))
  | false =>
    obtain ⟨r, i2, h2, e2, r0, r1, c2⟩ := spec_l01Below_eq h1 9 c1 (by omega)
    obtain ⟨nm, i3, h3, e3, q1, q2, q3⟩ := spec_l02Name_l0 (b := b) (1 + r).toNat (1 + r).toNat (by omega) 0 [] i2 h2 (by omega) rfl (by simp) c2
    refine ⟨nm, i3, h3, ?_, (okName_iff nm).2 ⟨by omega, by omega, q2⟩, by omega, q3⟩
    refine ev_bind (ev_eq e1) (ev_neg (by simp) (ev_bind (ev_eq e2) ?_))
    simp only
    rw [w64 (x := 1 + r) (by omega) (by omega), show (1 + r : Int) = (((1 + r).toNat : Nat) : Int) by omega]
    exact e3

/-! ### spec_l04Some -/
theorem spec_l04Some_ev {b : List Int} {i : Int} (h : Int) (hc : Cur b i) : ∃ (it : It) (i' h' : Int), Ev (fun k => spec_l04Some.f k b i h) (it.kind, toB it.name, it.n, it.hex, it.raw, i', h') ∧ (-2147483648 ≤ it.n ∧ it.n ≤ 2147483647) ∧ it.raw = 0 ∧ it.name.length ≤ 9 ∧ Cur b i' := by
  obtain ⟨q, i1, h1, e1, q0, q1, c1⟩ := spec_l01Below_eq h 8 hc (by omega)
  by_cases g0 : q = 0
  · obtain ⟨n, i2, h2, e2, hn, c2⟩ := spec_l04Int_eq h1 c1
    obtain ⟨o, i3, h3, e3, c3⟩ := spec_l01Once_eq h2 3 c2 (by omega)
    exact ⟨⟨7, [], n, o, 0⟩, i3, h3, ev_bind (ev_eq e1) (ev_pos g0 (ev_bind (ev_eq e2) (ev_bind (ev_eq e3) (ev_ret rfl)))), hn, rfl, by simp, c3⟩
  by_cases g1 : q = 1
  · obtain ⟨n, i2, h2, e2, hn, c2⟩ := spec_l04Int_eq h1 c1
    obtain ⟨o, i3, h3, e3, c3⟩ := spec_l01Once_eq h2 3 c2 (by omega)
    exact ⟨⟨8, [], n, o, 0⟩, i3, h3, ev_bind (ev_eq e1) (ev_neg g0 (ev_pos g1 (ev_bind (ev_eq e2) (ev_bind (ev_eq e3) (ev_ret rfl))))), hn, rfl, by simp, c3⟩
  by_cases g2 : q = 2
  · obtain ⟨s, i2, h2, e2, m2, c2⟩ := spec_l01Pick_eq h1 (([(⟨#[120]⟩ : ByteArray), (⟨#[97, 116]⟩ : ByteArray), (⟨#[113, 113, 113, 113]⟩ : ByteArray), (⟨#[116, 101, 110]⟩ : ByteArray)] : List ByteArray)) c1 (by decide)
    obtain ⟨n, i3, h3, e3, hn, c3⟩ := spec_l04Int_eq h2 c2
    have hall : (([(⟨#[120]⟩ : ByteArray), (⟨#[97, 116]⟩ : ByteArray), (⟨#[113, 113, 113, 113]⟩ : ByteArray), (⟨#[116, 101, 110]⟩ : ByteArray)] : List ByteArray)).all (fun s => decide (s.data.toList.length ≤ 9)) = true := by decide +kernel
    have hs := List.all_eq_true.1 hall s m2
    exact ⟨⟨9, s.data.toList, n, false, 0⟩, i3, h3, ev_bind (ev_eq e1) (ev_neg g0 (ev_neg g1 (ev_pos g2 (ev_bind (ev_eq e2) (ev_bind (ev_eq e3) (ev_ret (by simp only; rw [toB_self]))))))), hn, rfl, by simpa using hs, c3⟩
  · obtain ⟨t, i2, h2, e2, t0, t1, c2⟩ := spec_l01Below_eq h1 6 c1 (by omega)
    obtain ⟨nm, i3, h3, e3, o3, l3, c3⟩ := spec_l02Name_ev (b := b) h2 c2
    exact ⟨⟨wrap64 (1 + t), nm, 0, false, 0⟩, i3, h3, ev_bind (ev_eq e1) (ev_neg g0 (ev_neg g1 (ev_neg g2 (ev_bind (ev_eq e2) (ev_bind e3 (ev_ret rfl)))))), by simp, rfl, l3, c3⟩

/-! ### spec_l01Word -/
theorem spec_l01Word_eq {b : List Int} {i : Int} (h : Int) (hc : Cur b i) : ∃ r i' h', spec_l01Word.f b i h = some (r, i', h') ∧ (0 ≤ r ∧ r ≤ 4294967295) ∧ Cur b i' := by
  obtain ⟨q, i1, h1, e1, q0, q1, c1⟩ := spec_l01Below_eq h 4 hc (by omega)
  unfold spec_l01Word.f
  rw [e1]
  simp only [Option.bind_some]
  by_cases g0 : q = 0
  · obtain ⟨r, i2, h2, e2, m2, c2⟩ := spec_l01PickInt_eq h1 (([0, 1, 2, 31, 32, 255, 256, 2147483647, 2147483648, 4294967295, 4294967294] : List Int)) c1 (by decide)
    rw [if_pos g0, e2]
    exact ⟨_, _, _, rfl, by simp only; omega, c2⟩
  by_cases g1 : q = 1
  · obtain ⟨r, i2, h2, e2, r0, r1, c2⟩ := spec_l01Below_eq h1 300 c1 (by omega)
    rw [if_neg g0, if_pos g1, e2]
    exact ⟨_, _, _, rfl, by simp only; omega, c2⟩
  · obtain ⟨r, i2, h2, e2, r0, r1, c2⟩ := spec_l01Below_eq h1 65536 c1 (by omega)
    obtain ⟨s, i3, h3, e3, s0, s1, c3⟩ := spec_l01Below_eq h2 65536 c2 (by omega)
    rw [if_neg g0, if_neg g1, e2]
    simp only [Option.bind_some]
    rw [e3]
    exact ⟨_, _, _, rfl, by simp only; omega, c3⟩

/-! ### spec_l04Cells -/
theorem w64_succ {j : Nat} (h : j ≤ 1000000) : wrap64 ((j : Int) + 1) = ((j + 1 : Nat) : Int) := by rw [w64 (by omega) (by omega)]; omega
theorem spec_l04Cells_l0 {b : List Int} (n d : Nat) (hn : n ≤ 13) : ∀ (j : Nat) (acc : List Int) (i h : Int), j + d = n → acc.length ≤ 26 * j → (∀ x ∈ acc, 0 ≤ x ∧ x ≤ 4294967295) → Cur b i →
    ∃ r i' h', Ev (fun k => spec_l04Cells.l0 k acc (n : Int) (j : Int) b i h) (r, i', h') ∧ r.length ≤ 338 ∧ (∀ x ∈ r, 0 ≤ x ∧ x ≤ 4294967295) ∧ Cur b i' := by
  induction d with
  | zero =>
    intro j acc i h hj ha hr hc
    by_cases h64 : (acc.length : Int) > 64
    · obtain ⟨o, i1, h1, e, c1⟩ := spec_l01Once_eq h 6 hc (by omega)
      cases o with
      | true =>
        refine ⟨acc, i1, h1, Ev.step (fun k => by rw [spec_l04Cells.l0]) ?_, by omega, hr, c1⟩
        exact ev_neg (by omega) (ev_pos h64 (ev_bind (ev_eq e) (ev_pos rfl (ev_ret rfl))))
      | false =>
        refine ⟨acc.take 64, i1, h1, Ev.step (fun k => by rw [spec_l04Cells.l0]) ?_, by rw [List.length_take]; omega, fun x hx => hr x (List.mem_of_mem_take hx), c1⟩
        exact ev_neg (by omega) (ev_pos h64 (ev_bind (ev_eq e) (ev_neg (by simp) (ev_pos (by omega) (ev_ret rfl)))))
    · refine ⟨acc, i, h, Ev.step (fun k => by rw [spec_l04Cells.l0]) ?_, by omega, hr, hc⟩
      exact ev_neg (by omega) (ev_neg h64 (ev_ret rfl))
  | succ d ih =>
    intro j acc i h hj ha hr hc
    obtain ⟨it, i1, h1, e1, hn1, hraw, hnm, c1⟩ := spec_l04Some_ev h hc
    have ec := spec_CellsOf_ev it hn1
    have hlen := cellsOf_length it
    have hrng := cellsOf_range it (by omega)
    obtain ⟨q, i2, h2, e2, q0, q1, c2⟩ := spec_l01Below_eq h1 9 c1 (by omega)
    have hall : ∀ x ∈ acc ++ cellsOf it, 0 ≤ x ∧ x ≤ 4294967295 := fun x hx => (List.mem_append.1 hx).elim (hr x) (hrng x)
    have hsz : (acc ++ cellsOf it).length ≤ 26 * j + 25 := by rw [List.length_append]; omega
    have hj6 : j ≤ 1000000 := by omega
    have more : ∀ (v i' h' : Int), 0 ≤ v ∧ v ≤ 4294967295 → Cur b i' → ∃ r i'' h'', Ev (fun k => spec_l04Cells.l0 k ((acc ++ cellsOf it) ++ [v]) (n : Int) (wrap64 ((j : Int) + 1)) b i' h') (r, i'', h'') ∧ r.length ≤ 338 ∧ (∀ x ∈ r, 0 ≤ x ∧ x ≤ 4294967295) ∧ Cur b i'' := by
      intro v i' h' hv hc'
      rw [w64_succ hj6]
      refine ih (j + 1) _ i' h' (by omega) (by rw [List.length_append, List.length_singleton]; omega) (fun x hx => ?_) hc'
      rcases List.mem_append.1 hx with hx | hx
      · exact hall x hx
      · rw [List.mem_singleton] at hx; rw [hx]; exact hv
    by_cases g0 : q = 0
    · obtain ⟨v, i3, h3, e3, hv, c3⟩ := spec_l01Word_eq h2 c2
      obtain ⟨r, i', h', e, p⟩ := more v i3 h3 hv c3
      refine ⟨r, i', h', Ev.step (fun k => by rw [spec_l04Cells.l0]) ?_, p⟩
      exact ev_pos (by omega) (ev_bind e1 (ev_bind ec (ev_pos (by omega) (ev_some (ev_bind (ev_eq e2) (ev_pos g0 (ev_bind (ev_eq e3) (ev_pos (by omega) e))))))))
    by_cases g1 : q = 1
    · obtain ⟨r, i', h', e, p⟩ := more 0 i2 h2 (by omega) c2
      refine ⟨r, i', h', Ev.step (fun k => by rw [spec_l04Cells.l0]) ?_, p⟩
      exact ev_pos (by omega) (ev_bind e1 (ev_bind ec (ev_pos (by omega) (ev_some (ev_bind (ev_eq e2) (ev_neg g0 (ev_pos g1 (ev_pos (by omega) e))))))))
    by_cases g2 : q = 2
    · obtain ⟨v, i3, h3, e3, v0, v1, c3⟩ := spec_l01Below_eq h2 4096 c2 (by omega)
      obtain ⟨r, i', h', e, p⟩ := more ((v % 4294967296 * 16) % 4294967296) i3 h3 (by omega) c3
      refine ⟨r, i', h', Ev.step (fun k => by rw [spec_l04Cells.l0]) ?_, p⟩
      exact ev_pos (by omega) (ev_bind e1 (ev_bind ec (ev_pos (by omega) (ev_some (ev_bind (ev_eq e2) (ev_neg g0 (ev_neg g1 (ev_pos g2 (ev_bind (ev_eq e3) (ev_pos (by omega) e))))))))))
    by_cases g3 : q = 3
    · obtain ⟨v, i3, h3, e3, m3, c3⟩ := spec_l01PickInt_eq h2 (([2, 18, 5, 34, 12] : List Int)) c2 (by decide)
      obtain ⟨r, i', h', e, p⟩ := more (v % 4294967296) i3 h3 (by omega) c3
      refine ⟨r, i', h', Ev.step (fun k => by rw [spec_l04Cells.l0]) ?_, p⟩
      exact ev_pos (by omega) (ev_bind e1 (ev_bind ec (ev_pos (by omega) (ev_some (ev_bind (ev_eq e2) (ev_neg g0 (ev_neg g1 (ev_neg g2 (ev_pos g3 (ev_bind (ev_eq e3) (ev_pos (by omega) e)))))))))))
    · obtain ⟨r, i', h', e, p⟩ := ih (j + 1) (acc ++ cellsOf it) i2 h2 (by omega) (by omega) hall c2
      rw [← w64_succ hj6] at e
      refine ⟨r, i', h', Ev.step (fun k => by rw [spec_l04Cells.l0]) ?_, p⟩
      exact ev_pos (by omega) (ev_bind e1 (ev_bind ec (ev_pos (by omega) (ev_some (ev_bind (ev_eq e2) (ev_neg g0 (ev_neg g1 (ev_neg g2 (ev_neg g3 e)))))))))
theorem spec_l04Cells_ev {b : List Int} {i : Int} (h : Int) (hc : Cur b i) : ∃ r i' h', Ev (fun k => spec_l04Cells.f k b i h) (r, i', h') ∧ r.length ≤ 338 ∧ (∀ x ∈ r, 0 ≤ x ∧ x ≤ 4294967295) ∧ Cur b i' := by
  obtain ⟨n, i1, h1, e1, n0, n1, c1⟩ := spec_l01Below_eq h 14 hc (by omega)
  obtain ⟨r, i', h', e, p⟩ := spec_l04Cells_l0 (b := b) n.toNat n.toNat (by omega) 0 [] i1 h1 (by omega) (by simp) (by simp) c1
  rw [show ((n.toNat : Nat) : Int) = n by omega] at e
  exact ⟨r, i', h', ev_bind (ev_eq e1) e, p⟩

/-! ### spec_DrawExport -/
theorem spec_DrawExport_ev (l : List Int) (hl : l.length ≤ 1048576) : ∃ r, Ev (fun k => spec_DrawExport.f k l) r ∧ r.length ≤ 338 ∧ ∀ x ∈ r, 0 ≤ x ∧ x ≤ 4294967295 := by
  obtain ⟨h, e⟩ := spec_l01New_ev l hl
  obtain ⟨r, i', h', e2, p1, p2, c⟩ := spec_l04Cells_ev (b := l) (i := 0) h ⟨hl, by omega, by omega⟩
  exact ⟨r, ev_bind e (ev_bind e2 (ev_ret rfl)), p1, p2⟩

/-! ### impl_nameTag -/
theorem impl_nameTag_eq (k : Int) : impl_nameTag.f k = some (tagOf k) := by
  unfold impl_nameTag.f tagOf
  repeat' split
  all_goals rfl

/-! ### strings_IndexByte -/
theorem strings_IndexByte_eq (b : UInt8) : strings_IndexByte.f lettersB (b.toNat : Int) = some (lo b) := by
  unfold strings_IndexByte.f stringslite_IndexByte.f lo
  simp

/-! ### impl_LetterOf -/
theorem impl_LetterOf_eq (b : UInt8) : impl_LetterOf.f (b.toNat : Int) = some (lo b) := by
  unfold impl_LetterOf.f
  have e : impl_letters.f = some lettersB := rfl
  rw [e]
  simp only [Option.bind_some]
  rw [strings_IndexByte_eq]
  rfl

/-! ### impl_within -/
theorem impl_within_eq (a b c : Int) : impl_within.f a b c = some (decide (b ≤ a ∧ a ≤ c)) := by
  unfold impl_within.f
  by_cases h : b ≤ a
  · rw [if_pos h]; simp [h]
  · rw [if_neg h]; simp [h]

/-! ### impl_NameOk -/
theorem impl_NameOk_l0 (s : ByteArray) (hs : s.size ≤ 1048576) (d : Nat) : ∀ i : Nat, i + d = s.size → Ev (fun k => impl_NameOk.l0 k s (s.size : Int) (i : Int)) ((s.data.toList.drop i).all (fun b => decide (1 ≤ lo b)) && decide (1 ≤ s.size ∧ s.size ≤ 24)) := by
  induction d with
  | zero =>
    intro i hi
    refine Ev.step (fun k => by rw [impl_NameOk.l0]) ?_
    refine ev_neg (by omega) (ev_bind (ev_eq (impl_within_eq _ _ _)) (ev_ret ?_))
    rw [List.drop_of_length_le (by rw [← size_eq]; omega), List.all_nil, Bool.true_and]
    rw [Bool.eq_iff_iff, decide_eq_true_eq, decide_eq_true_eq]; omega
  | succ d ih =>
    intro i hi
    have hlt : i < s.size := by omega
    refine Ev.step (fun k => by rw [impl_NameOk.l0]) ?_
    refine ev_pos (by omega) (ev_pos (by omega) (ev_pos (by omega) (ev_bind (ev_eq (by rw [bt_at hlt]; exact impl_LetterOf_eq _)) ?_)))
    rw [drop_cons hlt, List.all_cons]
    by_cases h : 1 ≤ lo s[i]
    · refine ev_neg (by omega) ?_
      rw [w64 (by omega) (by omega), show ((i : Int) + 1) = ((i + 1 : Nat) : Int) by omega, decide_eq_true h, Bool.true_and]
      exact ih (i + 1) (by omega)
    · refine ev_pos (by omega) (ev_ret ?_)
      rw [decide_eq_false h, Bool.false_and, Bool.false_and]
theorem impl_NameOk_ev (s : ByteArray) (hs : s.size ≤ 1048576) : Ev (fun k => impl_NameOk.f k s) (okName s.data.toList) := by
  refine ev_to (impl_NameOk_l0 s hs s.size 0 (by omega)) ?_
  unfold okName
  rw [← size_eq, List.drop_zero, Bool.eq_iff_iff]
  simp only [Bool.and_eq_true, decide_eq_true_eq]
  exact ⟨fun h => ⟨h.2, h.1⟩, fun h => ⟨h.2, h.1⟩⟩

/-! ### impl_WidthOf -/
theorem impl_WidthOf_eq (k : Int) : impl_WidthOf.f k = some (widthOf k) := by
  unfold impl_WidthOf.f widthOf
  simp only [impl_within_eq, Option.bind_some, decide_eq_true_eq]
  by_cases h1 : 0 ≤ k ∧ k ≤ 7
  · rw [if_pos h1, if_pos h1]
  rw [if_neg h1, if_neg h1]
  by_cases h2 : 8 ≤ k ∧ k ≤ 15
  · rw [if_pos h2, if_pos h2]
  rw [if_neg h2, if_neg h2]
  by_cases h3 : 16 ≤ k ∧ k ≤ 47
  · rw [if_pos h3, if_pos h3]
  rw [if_neg h3, if_neg h3]

/-! ### impl_BitsOf -/
theorem impl_BitsOf_eq (k : Int) : impl_BitsOf.f k = some (bitsOf k) := by
  unfold impl_BitsOf.f
  simp only [impl_WidthOf_eq, Option.bind_some]
  rcases width_cases k with ⟨e1, e2, h⟩ | ⟨e1, e2, h⟩ | ⟨e1, e2, h⟩ | ⟨e1, e2, h⟩ <;> rw [e1, e2] <;> simp
  · omega
  · omega
  · omega

/-! ### impl_PackOne -/
theorem impl_PackOne_l0 (s : ByteArray) (hs : s.size ≤ 1000000) (hb : ∀ b ∈ s.data.toList, 1 ≤ lo b) (d : Nat) : ∀ (i : Nat) (f left : Int), i + d = s.size → 0 ≤ left → left ≤ 28 → 0 ≤ f → f % 2 ^ left.toNat = 0 → f + 2 ^ left.toNat ≤ 268435456 →
    Ev (fun k => impl_PackOne.l0 k s f left (i : Int) (s.size : Int) (i : Int)) (f + (one (s.data.toList.drop i) left).1, (i : Int) + ((one (s.data.toList.drop i) left).2 : Int)) := by
  induction d with
  | zero =>
    intro i f left hi h0 h1 h2 hm h3
    have := two_pow_pos left.toNat
    refine Ev.step (fun k => by rw [impl_PackOne.l0]) ?_
    refine ev_neg (by omega) (ev_ret ?_)
    rw [List.drop_of_length_le (by rw [← size_eq]; omega), one]
    simp
  | succ d ih =>
    intro i f left hi h0 h1 h2 hm0 h3
    have hlt : i < s.size := by omega
    have hp := two_pow_pos left.toNat
    have hl1 := hb s[i] (by rw [getB hlt]; exact List.getElem_mem _)
    have hlr := lo_range s[i]
    have w := width_in (k := lo s[i]) (by omega) (by omega)
    rw [drop_cons hlt, one]
    refine Ev.step (fun k => by rw [impl_PackOne.l0]) ?_
    refine ev_pos (by omega) (ev_pos (by omega) (ev_pos (by omega) (ev_bind (ev_eq (by rw [bt_at hlt]; exact impl_LetterOf_eq _)) (ev_bind (ev_eq (impl_WidthOf_eq _)) ?_))))
    by_cases hw : widthOf (lo s[i]) > left
    · rw [if_pos hw]
      refine ev_pos hw (ev_ret ?_)
      simp
    · rw [if_neg hw]
      have e : left.toNat = (widthOf (lo s[i])).toNat + (left - widthOf (lo s[i])).toNat := by omega
      have hq := two_pow_pos (left - widthOf (lo s[i])).toNat
      have hm : (bitsOf (lo s[i]) + 1) * 2 ^ (left - widthOf (lo s[i])).toNat ≤ 2 ^ left.toNat := by
        rw [e, Int.pow_add]; exact Int.mul_le_mul_of_nonneg_right (by omega) (by omega)
      rw [Int.add_mul] at hm
      have hn := Int.mul_nonneg w.2.2.1 (show 0 ≤ (2 : Int) ^ (left - widthOf (lo s[i])).toNat by omega)
      refine ev_neg hw (ev_bind (ev_eq (impl_WidthOf_eq _)) (ev_bind (ev_eq (impl_BitsOf_eq _)) (ev_pos (by rw [w64 (by omega) (by omega)]; omega) ?_)))
      rw [w64 (x := left - widthOf (lo s[i])) (by omega) (by omega), shl_u32 w.2.2.1 (by omega) (by omega), w64 (by omega) (by omega), show ((i : Int) + 1) = ((i + 1 : Nat) : Int) by omega]
      rw [or_u32 left.toNat (by omega) hm0 (by omega) (by omega) (by omega)]
      refine ev_to (ih (i + 1) _ _ (by omega) (by omega) (by omega) (by omega) ?_ (by omega)) ?_
      · have e2 : (f + bitsOf (lo s[i]) * 2 ^ (left - widthOf (lo s[i])).toNat) = (2 : Int) ^ (left - widthOf (lo s[i])).toNat * (2 ^ (widthOf (lo s[i])).toNat * (f / 2 ^ left.toNat) + bitsOf (lo s[i])) := by
          have h4 := Int.mul_ediv_add_emod f (2 ^ left.toNat)
          rw [hm0, e, Int.pow_add] at h4
          rw [Int.mul_add, Int.mul_comm (bitsOf _), e, Int.pow_add]
          rw [← Int.mul_assoc, Int.mul_comm (2 ^ (left - widthOf (lo s[i])).toNat) (2 ^ (widthOf (lo s[i])).toNat)]
          omega
        rw [e2, Int.mul_emod_right]
      · simp only [Prod.mk.injEq]
        constructor <;> omega
theorem impl_PackOne_ev (l : List UInt8) (hl : l.length ≤ 1048576) : Ev (fun k => impl_PackOne.f k (toB l)) (if okName l = true then ((one l 28).1, ((one l 28).2 : Int)) else (0, 0)) := by
  refine ev_bind (impl_NameOk_ev (toB l) (by rw [toB_size]; omega)) ?_
  rw [toB_data]
  by_cases h : okName l = true
  · rw [if_pos h]
    obtain ⟨h1, h2, h3⟩ := (okName_iff l).1 h
    refine ev_pos h (ev_to (impl_PackOne_l0 (toB l) (by rw [toB_size]; omega) h3 l.length 0 0 28 (by rw [toB_size]; omega) (by omega) (by omega) (by omega) (by simp) (by decide)) ?_)
    rw [toB_data]; simp
  · rw [if_neg h]
    exact ev_neg h (ev_ret rfl)

/-! ### impl_Pack -/
theorem impl_Pack_l0 (n : Nat) : ∀ (l : List UInt8) (out : List Int), l.length ≤ n → n ≤ 24 → (∀ b ∈ l, 1 ≤ lo b) → out.length + l.length ≤ 1000000 → Ev (fun k => impl_Pack.l0 k (toB l) out) (out ++ packF l.length l) := by
  have stop : ∀ out : List Int, Ev (fun k => impl_Pack.l0 k (toB []) out) (out ++ packF 0 []) := by
    intro out
    refine Ev.step (fun k => by rw [impl_Pack.l0]) ?_
    refine ev_bind (impl_NameOk_ev _ (by decide)) (ev_neg (by decide) (ev_ret ?_))
    simp [packF]
  induction n with
  | zero =>
    intro l out hl hn hb ho
    have : l = [] := List.eq_nil_of_length_eq_zero (by omega)
    subst this
    exact stop out
  | succ n ih =>
    intro l out hl hn hb ho
    by_cases h : l = []
    · subst h; exact stop out
    · have h1 := one_pos h (left := 28) (by omega)
      have h2 := one_range l 28 (by omega) (by omega) hb
      have hok : okName l = true := (okName_iff l).2 ⟨List.length_pos_iff.2 h, by omega, hb⟩
      have hone := impl_PackOne_ev l (by omega)
      rw [if_pos hok] at hone
      refine Ev.step (fun k => by rw [impl_Pack.l0]) ?_
      refine ev_bind (impl_NameOk_ev _ (by rw [toB_size]; omega)) (ev_pos (by rw [toB_data]; exact hok) (ev_bind hone (ev_pos (by omega) (ev_pos (by simp only; omega) (ev_pos (by rw [toB_size]; simp only; omega) ?_)))))
      rw [packF_step h, extract_eq, toB_data, toB_size, List.take_of_length_le (by omega)]
      simp only [Int.toNat_natCast]
      refine ev_to (ih (l.drop (one l 28).2) (out ++ [(one l 28).1]) (by rw [List.length_drop]; omega) (by omega) (fun b hb' => hb b (List.mem_of_mem_drop hb')) (by simp only [List.length_append, List.length_drop, List.length_cons, List.length_nil]; omega)) ?_
      simp
theorem impl_Pack_ev (l : List UInt8) (hl : l.length ≤ 1048576) : Ev (fun k => impl_Pack.f k (toB l)) (pack l) := by
  unfold pack
  by_cases h : okName l = true
  · rw [if_pos h]
    obtain ⟨h1, h2, h3⟩ := (okName_iff l).1 h
    exact impl_Pack_l0 l.length l [] (by omega) h2 h3 (by simp; omega)
  · rw [if_neg h]
    refine Ev.step (g := fun k => impl_Pack.l0 k (toB l) []) (fun k => by rw [impl_Pack.l0]) ?_
    exact ev_bind (impl_NameOk_ev _ (by rw [toB_size]; omega)) (ev_neg (by rw [toB_data]; exact h) (ev_ret rfl))

/-! ### impl_numberCells -/
theorem impl_numberCells_eq (n : Int) (hex : Bool) (s l : Int) (hn : -2147483648 ≤ n ∧ n ≤ 2147483647) (hs : 0 ≤ s ∧ s ≤ 15) (hl : 0 ≤ l ∧ l ≤ 15) : impl_numberCells.f n hex s l = some (numCells n hex s l) := by
  unfold impl_numberCells.f numCells bitOf
  have e0 : (n % 4294967296 * 32) % 4294967296 = n % 134217728 * 32 := by omega
  have em : n % 134217728 * 32 % 2 ^ 5 = 0 := by omega
  rw [e0]
  cases hex
  · simp only [Bool.false_eq_true, if_false]
    rw [or_u32 (x := n % 134217728 * 32) (y := 0) 0 (by omega) (by simp) (by omega) (by omega) (by omega), or_u32 (x := n % 134217728 * 32 + 0) (y := s) 4 (by omega) (by omega) hs.1 (by omega) (by omega), or_u32 (x := 0) (y := l) 4 (by omega) (by omega) hl.1 (by omega) (by omega)]
    by_cases h : -67108864 ≤ n ∧ n ≤ 67108863
    · rw [if_pos h.1, if_pos h.2, if_pos h]
    · rw [if_neg h]
      by_cases h1 : n ≥ -67108864
      · rw [if_pos h1, if_neg (by omega)]
      · rw [if_neg h1]
  · simp only [if_true]
    rw [or_u32 (x := n % 134217728 * 32) (y := 16) 5 (by omega) em (by omega) (by omega) (by omega), or_u32 (x := n % 134217728 * 32 + 16) (y := s) 4 (by omega) (by omega) hs.1 (by omega) (by omega), or_u32 (x := 16) (y := l) 4 (by omega) (by omega) hl.1 (by omega) (by omega)]
    by_cases h : -67108864 ≤ n ∧ n ≤ 67108863
    · rw [if_pos h.1, if_pos h.2, if_pos h]
    · rw [if_neg h]
      by_cases h1 : n ≥ -67108864
      · rw [if_pos h1, if_neg (by omega)]
      · rw [if_neg h1]

/-! ### impl_CellsOf -/
theorem impl_CellsOf_l0 (fs : List Int) (hf : ∀ f ∈ fs, 0 ≤ f ∧ f < 268435456) (hl : fs.length ≤ 24) (d : Nat) : ∀ (i : Nat) (t : Int) (out : List Int), i + d = fs.length → 0 ≤ t ∧ t ≤ 15 → out.length ≤ i →
    Ev (fun k => impl_CellsOf.l0 k t out fs (fs.length : Int) (i : Int)) (out ++ word t (fs.drop i)) := by
  induction d with
  | zero =>
    intro i t out hi ht ho
    refine Ev.step (fun k => by rw [impl_CellsOf.l0]) ?_
    refine ev_neg (by omega) (ev_ret ?_)
    rw [List.drop_of_length_le (by omega), word, List.append_nil]
  | succ d ih =>
    intro i t out hi ht ho
    have hlt : i < fs.length := by omega
    have hfi := hf fs[i] (List.getElem_mem _)
    refine Ev.step (fun k => by rw [impl_CellsOf.l0]) ?_
    refine ev_pos (by omega) (ev_pos (by omega) (ev_pos (by omega) (ev_pos (by omega) ?_)))
    rw [rd_nat hlt, w64 (by omega) (by omega), show ((i : Int) + 1) = ((i + 1 : Nat) : Int) by omega]
    rw [show fs[i] * 16 % 4294967296 = fs[i] * 16 by omega, or_u32 4 (by omega) (by omega) ht.1 (by omega) (by omega)]
    refine ev_to (ih (i + 1) 0 _ (by omega) (by omega) (by rw [List.length_append, List.length_singleton]; omega)) ?_
    rw [word_zero, List.drop_eq_getElem_cons hlt, word, List.append_assoc]
    rfl
theorem impl_CellsOf_ev (it : It) (hn : -2147483648 ≤ it.n ∧ it.n ≤ 2147483647) (hs : it.name.length ≤ 1048576) : Ev (fun k => impl_CellsOf.f k it.kind (toB it.name) it.n it.hex it.raw) (cellsOf it) := by
  obtain ⟨kind, name, n, hex, raw⟩ := it
  simp only at hn hs ⊢
  have hp := pack_length name
  have hpf : ∀ f ∈ pack name, 0 ≤ f ∧ f < 268435456 := fun f hf => (pack_fields f hf).2
  have ht := tagOf_range kind
  have rest : ∀ b : Bool, (b = true → 0 < tagOf kind ∧ n = 0 ∧ hex = false ∧ raw = 0) → (0 < tagOf kind ∧ n = 0 ∧ hex = false ∧ raw = 0 → b = true) → Ev (fun k => impl_CellsOf.j0 k (tagOf kind) b kind (toB name) n hex raw) (cellsOf ⟨kind, name, n, hex, raw⟩) := by
    intro b hb1 hb2
    refine Ev.step (fun k => by rw [impl_CellsOf.j0]) ?_
    by_cases hb : b = true
    · obtain ⟨q1, q2⟩ := hb1 hb
      have := tagOf_pos q1
      have e : cellsOf ⟨kind, name, n, hex, raw⟩ = word (tagOf kind) (pack name) := by unfold cellsOf; simp only; rw [if_neg (by omega), if_neg (by omega), if_neg (by omega), if_neg (by omega), if_pos ⟨q1, q2⟩]
      rw [e]
      refine ev_pos hb (ev_bind (impl_Pack_ev name hs) ?_)
      have := impl_CellsOf_l0 (pack name) hpf hp (pack name).length 0 (tagOf kind) [] (Nat.zero_add _) (by omega) (Nat.le_refl _)
      simpa using this
    · refine ev_neg hb ?_
      by_cases k0 : kind = 0
      · have e : cellsOf ⟨kind, name, n, hex, raw⟩ = if name = [] ∧ n = 0 ∧ hex = false then [raw] else [] := by unfold cellsOf; simp only; rw [if_pos k0]
        rw [e]
        refine ev_neg (by simp [k0]) (ev_neg (by simp [k0]) (ev_neg (by simp [k0]) ?_))
        by_cases h : name = [] ∧ n = 0 ∧ hex = false
        · refine ev_pos ?_ (ev_ret (if_pos h).symm)
          obtain ⟨h1, h2, h3⟩ := h
          rw [(toB_nil_iff name).2 h1, h2, h3, k0]; rfl
        · refine ev_neg ?_ (ev_ret (if_neg h).symm)
          intro hc
          simp only [Bool.and_eq_true, beq_iff_eq, Bool.not_eq_true'] at hc
          exact h ⟨(toB_nil_iff name).1 hc.2.1, hc.2.2.1, hc.2.2.2⟩
      by_cases k7 : kind = 7
      · have e : cellsOf ⟨kind, name, n, hex, raw⟩ = if name = [] ∧ raw = 0 then numCells n hex 8 2 else [] := by unfold cellsOf; simp only; rw [if_neg k0, if_pos k7]
        rw [e]
        by_cases h : name = [] ∧ raw = 0
        · refine ev_pos ?_ (ev_bind (ev_eq (impl_numberCells_eq n hex 8 2 hn (by omega) (by omega))) (ev_ret (if_pos h).symm))
          rw [(toB_nil_iff name).2 h.1, h.2, k7]; rfl
        · refine ev_neg ?_ (ev_neg (by simp [k7]) (ev_neg (by simp [k7]) (ev_neg (by simp [k7]) (ev_ret (if_neg h).symm))))
          intro hc
          simp only [Bool.and_eq_true, beq_iff_eq] at hc
          exact h ⟨(toB_nil_iff name).1 hc.2.1, hc.2.2⟩
      refine ev_neg (by simp [k7]) ?_
      by_cases k8 : kind = 8
      · have e : cellsOf ⟨kind, name, n, hex, raw⟩ = if name = [] ∧ raw = 0 then numCells n hex 6 5 else [] := by unfold cellsOf; simp only; rw [if_neg k0, if_neg k7, if_pos k8]
        rw [e]
        by_cases h : name = [] ∧ raw = 0
        · refine ev_pos ?_ (ev_bind (ev_eq (impl_numberCells_eq n hex 6 5 hn (by omega) (by omega))) (ev_ret (if_pos h).symm))
          rw [(toB_nil_iff name).2 h.1, h.2, k8]; rfl
        · refine ev_neg ?_ (ev_neg (by simp [k8]) (ev_neg (by simp [k8]) (ev_ret (if_neg h).symm)))
          intro hc
          simp only [Bool.and_eq_true, beq_iff_eq] at hc
          exact h ⟨(toB_nil_iff name).1 hc.2.1, hc.2.2⟩
      refine ev_neg (by simp [k8]) ?_
      by_cases k9 : kind = 9
      · have e : cellsOf ⟨kind, name, n, hex, raw⟩ = if hex = false ∧ raw = 0 ∧ (pack name).length = 1 then word 12 (pack name) ++ [n % 4294967296] else [] := by unfold cellsOf; simp only; rw [if_neg k0, if_neg k7, if_neg k8, if_pos k9]
        rw [e]
        by_cases h : hex = false ∧ raw = 0
        · refine ev_pos (by rw [h.1, h.2, k9]; rfl) (ev_bind (impl_Pack_ev name hs) ?_)
          by_cases h1 : (pack name).length = 1
          · obtain ⟨f, hf⟩ := List.length_eq_one_iff.1 h1
            have hff := hpf f (by rw [hf]; simp)
            refine ev_pos (by omega) (ev_pos (by omega) (ev_ret ?_))
            rw [if_pos ⟨h.1, h.2, h1⟩, hf]
            simp only [rd, Int.toNat_zero, List.getD_cons_zero, word, List.map_nil, List.singleton_append]
            rw [show f * 16 % 4294967296 = f * 16 by omega, or_u32 4 (by omega) (by omega) (by omega) (by omega) (by omega)]
          · exact ev_neg (by omega) (ev_ret (if_neg (fun h => h1 h.2.2)).symm)
        · refine ev_neg ?_ (ev_neg (by simp [k9]) (ev_ret (if_neg (fun hc => h ⟨hc.1, hc.2.1⟩)).symm))
          intro hc
          simp only [Bool.and_eq_true, beq_iff_eq, Bool.not_eq_true'] at hc
          exact h hc.2
      have e : cellsOf ⟨kind, name, n, hex, raw⟩ = [] := by unfold cellsOf; simp only; rw [if_neg k0, if_neg k7, if_neg k8, if_neg k9, if_neg (fun h => hb (hb2 h))]
      rw [e]
      exact ev_neg (by simp [k9]) (ev_neg (by simp [k0]) (ev_ret rfl))
  unfold impl_CellsOf.f
  refine ev_bind (ev_eq (impl_nameTag_eq kind)) ?_
  by_cases hp0 : tagOf kind > 0
  · refine ev_pos hp0 (rest _ ?_ ?_)
    · intro h
      simp only [Bool.and_eq_true, beq_iff_eq, Bool.not_eq_true'] at h
      exact ⟨hp0, h⟩
    · intro h
      simp [h.2.1, h.2.2.1, h.2.2.2]
  · exact ev_neg hp0 (rest false (by simp) (fun h => absurd h.1 hp0))

/-! ### slices_Equal_uint32_uint32 -/
theorem slices_Equal_u32_l0 (a b : List Int) (hl : a.length ≤ 70368744177664) (he : a.length = b.length) (d : Nat) : ∀ (i : Nat), i + d = a.length → Ev (fun k => slices_Equal_uint32_uint32.l0 k a b (a.length : Int) (i : Int)) (decide (a.drop i = b.drop i)) := by
  induction d with
  | zero =>
    intro i hi
    refine Ev.step (fun k => by rw [slices_Equal_uint32_uint32.l0]) ?_
    refine ev_neg (by omega) (ev_ret ?_)
    rw [List.drop_of_length_le (by omega), List.drop_of_length_le (by omega)]; simp
  | succ d ih =>
    intro i hi
    refine Ev.step (fun k => by rw [slices_Equal_uint32_uint32.l0]) ?_
    refine ev_pos (by omega) (ev_pos (by omega) (ev_pos (by omega) (ev_pos (by omega) ?_)))
    rw [rd_nat (by omega), rd_nat (by omega), List.drop_eq_getElem_cons (by omega : i < a.length), List.drop_eq_getElem_cons (by omega : i < b.length)]
    by_cases h : a[i] = b[i]
    · refine ev_pos h ?_
      rw [w64 (by omega) (by omega), show ((i : Int) + 1) = ((i + 1 : Nat) : Int) by omega]
      exact ev_to (ih (i + 1) (by omega)) (dec_cons h)
    · exact ev_neg h (ev_ret (dec_cons_ne h))
theorem slices_Equal_u32_ev (a b : List Int) (hl : a.length ≤ 70368744177664) : Ev (fun k => slices_Equal_uint32_uint32.f k a b) (decide (a = b)) := by
  by_cases h : a.length = b.length
  · exact ev_pos (by omega) (ev_to (slices_Equal_u32_l0 a b hl h a.length 0 (by omega)) (by simp))
  · refine ev_neg (by omega) (ev_ret ?_)
    rw [decide_eq_false]
    intro e
    exact h (by rw [e])

/-! ### impl_Decode -/
theorem impl_Decode_l0 (x n : Int) (hx : 0 ≤ x ∧ x ≤ 4294967295) (hn : 1 ≤ n ∧ n ≤ 32) (d : Nat) (hd : d ≤ 48) : Ev (fun k => impl_Decode.l0 k x n (48 - (d : Int))) (decFrom x n d) := by
  induction d with
  | zero =>
    refine Ev.step (fun k => by rw [impl_Decode.l0]) ?_
    refine ev_neg (by omega) (ev_ret ?_)
    rfl
  | succ d ih =>
    refine Ev.step (fun k => by rw [impl_Decode.l0]) ?_
    refine ev_pos (by omega) (ev_bind (ev_eq (impl_WidthOf_eq _)) ?_)
    have e : (48 : Int) - ((d + 1 : Nat) : Int) = 47 - d := by omega
    have hw := width_in (k := 47 - (d : Int)) (by omega) (by omega)
    rw [e, decFrom, w64 (x := 47 - (d : Int) + 1) (by omega) (by omega), show ((47 : Int) - d + 1) = 48 - d by omega]
    by_cases h : widthOf (47 - d) ≤ n
    · refine ev_pos h (ev_pos (by rw [w64 (by omega) (by omega)]; omega) (ev_pos (by omega) (ev_bind (ev_eq (impl_BitsOf_eq _)) ?_)))
      rw [impl_head x n (widthOf (47 - d)) hx hn (by omega) h]
      have hh : hit x n (47 - d) ↔ x / 2 ^ (n - widthOf (47 - d)).toNat % 2 ^ (widthOf (47 - d)).toNat = bitsOf (47 - d) := ⟨fun k => k.2, fun k => ⟨h, k⟩⟩
      by_cases h' : hit x n (47 - d)
      · rw [if_pos h']; exact ev_pos (hh.1 h') (ev_ret rfl)
      · rw [if_neg h']; exact ev_neg (fun k => h' (hh.2 k)) (ih (by omega))
    · rw [if_neg (fun k => h k.1)]
      exact ev_neg h (ih (by omega))
theorem impl_Decode_ev (x n : Int) (hx : 0 ≤ x ∧ x ≤ 4294967295) : Ev (fun k => impl_Decode.f k x n) (dcode x n) := by
  refine ev_bind (ev_eq (impl_within_eq _ _ _)) ?_
  unfold dcode
  by_cases h : 1 ≤ n ∧ n ≤ 32
  · rw [if_pos h]; exact ev_pos (decide_eq_true h) (impl_Decode_l0 x n hx h 48 (by omega))
  · rw [if_neg h]; exact ev_neg (by simp only [decide_eq_true_eq]; exact h) (ev_ret rfl)

/-! ### impl_LetterAt -/
theorem impl_LetterAt_eq (k : Int) : impl_LetterAt.f k = some (if 0 ≤ k ∧ k ≤ 47 then bt lettersB k else 0) := by
  unfold impl_LetterAt.f impl_letters.f
  simp only [impl_within_eq, Option.bind_some, decide_eq_true_eq]
  by_cases h : 0 ≤ k ∧ k ≤ 47
  · rw [if_pos h, if_pos h, if_pos h.1, if_pos (by show k < 48; omega)]; rfl
  · rw [if_neg h, if_neg h]

/-! ### impl_UnpackOne -/
theorem impl_UnpackOne_l0 (f : Int) (hf : 0 ≤ f ∧ f < 268435456) (d : Nat) : ∀ (acc : List UInt8) (left : Int), 0 ≤ left → left ≤ 28 → left ≤ 4 * d → acc.length + d ≤ 8 →
    Ev (fun k => impl_UnpackOne.l0 k f (acc.map (fun b => (b.toNat : Int))) left) (toB (acc ++ upk f d left)) := by
  have stop : ∀ (acc : List UInt8) (left : Int), 0 ≤ left → left ≤ 28 → f % 2 ^ left.toNat = 0 → Ev (fun k => impl_UnpackOne.l0 k f (acc.map (fun b => (b.toNat : Int))) left) (toB acc) := by
    intro acc left h0 h1 hz
    refine Ev.step (fun k => by rw [impl_UnpackOne.l0]) ?_
    refine ev_pos h0 (ev_pos ?_ (ev_ret (strOf_map acc)))
    have := two_pow_le (a := left.toNat) (b := 28) (by omega)
    have := two_pow_pos left.toNat
    rw [shl1_u32 (by omega) (by omega), show ((2 : Int) ^ left.toNat - 1) % 4294967296 = 2 ^ left.toNat - 1 by omega, and_u32 (by omega) (by omega)]
    exact hz
  induction d with
  | zero =>
    intro acc left h0 h1 h2 h3
    have : left = 0 := by omega
    subst this
    rw [upk, List.append_nil]
    exact stop acc 0 (by omega) (by omega) (by simp)
  | succ d ih =>
    intro acc left h0 h1 h2 h3
    rw [upk]
    by_cases hm : f % 2 ^ left.toNat = 0
    · rw [if_pos hm, List.append_nil]
      exact stop acc left h0 h1 hm
    · rw [if_neg hm]
      refine Ev.step (fun k => by rw [impl_UnpackOne.l0]) ?_
      have := two_pow_le (a := left.toNat) (b := 28) (by omega)
      have := two_pow_pos left.toNat
      refine ev_pos h0 (ev_neg ?_ ?_)
      · rw [shl1_u32 (by omega) (by omega), show ((2 : Int) ^ left.toNat - 1) % 4294967296 = 2 ^ left.toNat - 1 by omega, and_u32 (by omega) (by omega)]
        exact hm
      refine ev_bind (impl_Decode_ev f left (by omega)) ?_
      have hd := dcode_range f left
      by_cases hk : (dcode f left).1 < 1
      · rw [if_pos hk]
        refine ev_pos hk (ev_ret ?_)
        rw [strOf_map]; simp
      · rw [if_neg hk]
        refine ev_neg hk (ev_bind (ev_eq (impl_LetterAt_eq _)) (ev_pos (by simp; omega) ?_))
        rw [if_pos (by omega), bt_letter (by omega) (by omega), w64 (by omega) (by omega), map_snoc]
        refine ev_to (ih (acc ++ [letter (dcode f left).1]) _ (by omega) (by omega) (by omega) (by simp; omega)) ?_
        simp
theorem impl_UnpackOne_ev (f : Int) (hf : 0 ≤ f ∧ f ≤ 4294967295) : Ev (fun k => impl_UnpackOne.f k f) (toB (unpackOne f)) := by
  unfold unpackOne
  by_cases h : f ≥ 268435456
  · rw [if_pos h]; exact ev_pos h (ev_ret rfl)
  · rw [if_neg h]
    refine ev_neg h ?_
    exact ev_to (impl_UnpackOne_l0 f (by omega) 8 [] 28 (by omega) (by omega) (by omega) (by simp)) (by simp)

/-! ### impl_Unpack -/
theorem impl_Unpack_l0 (list : List Int) (hl : list.length ≤ 24) (hr : ∀ x ∈ list, 0 ≤ x ∧ x ≤ 4294967295) (d : Nat) : ∀ (i : Nat) (acc : List UInt8), i + d = list.length → acc.length ≤ 8 * i →
    Ev (fun k => impl_Unpack.l0 k list (toB acc) list (list.length : Int) (i : Int)) (if okName (acc ++ unpackAll (list.drop i)) = true ∧ pack (acc ++ unpackAll (list.drop i)) = list then (toB (acc ++ unpackAll (list.drop i)), true) else (toB [], false)) := by
  induction d with
  | zero =>
    intro i acc hi ha
    rw [List.drop_of_length_le (by omega)]
    refine Ev.step (fun k => by rw [impl_Unpack.l0]) ?_
    refine ev_neg (by omega) (ev_bind (impl_NameOk_ev _ (by rw [toB_size]; omega)) ?_)
    rw [toB_data, show acc ++ unpackAll [] = acc by simp [unpackAll]]
    by_cases h : okName acc = true
    · refine ev_pos h (ev_bind (impl_Pack_ev acc (by omega)) (ev_bind (slices_Equal_u32_ev _ _ ?_) ?_))
      · have := pack_length acc; omega
      · by_cases h2 : pack acc = list
        · refine ev_pos (by simpa using h2) ?_
          rw [if_pos ⟨h, h2⟩]
          exact ev_ret rfl
        · refine ev_neg (by simpa using h2) ?_
          rw [if_neg (fun x => h2 x.2)]
          exact ev_ret rfl
    · refine ev_neg h ?_
      rw [if_neg (fun x => h x.1)]
      exact ev_ret rfl
  | succ d ih =>
    intro i acc hi ha
    have hm := hr list[i] (List.getElem_mem _)
    have hu := unpackOne_length list[i]
    refine Ev.step (fun k => by rw [impl_Unpack.l0]) ?_
    refine ev_pos (by omega) (ev_pos (by omega) (ev_pos (by omega) (ev_bind (by rw [rd_nat (by omega)]; exact impl_UnpackOne_ev _ hm) (ev_pos (by rw [toB_size, toB_size]; omega) ?_))))
    rw [w64 (by omega) (by omega), show ((i : Int) + 1) = ((i + 1 : Nat) : Int) by omega, toB_append]
    refine ev_to (ih (i + 1) _ (by omega) (by rw [List.length_append]; omega)) ?_
    rw [List.drop_eq_getElem_cons (by omega : i < list.length)]
    simp only [unpackAll, List.flatMap_cons, List.append_assoc]
theorem impl_Unpack_ev (list : List Int) (hr : ∀ x ∈ list, 0 ≤ x ∧ x ≤ 4294967295) : Ev (fun k => impl_Unpack.f k list) (toB (unpack list).1, (unpack list).2) := by
  unfold unpack
  by_cases h : list.length > 24
  · rw [if_pos h]; exact ev_pos (by omega) (ev_ret rfl)
  · rw [if_neg h]
    refine ev_neg (by omega) (ev_to (impl_Unpack_l0 list (by omega) hr list.length 0 [] (by omega) (by simp)) ?_)
    simp only [List.drop_zero, List.nil_append]
    split <;> rfl

/-! ### impl_nameKind -/
theorem impl_nameKind_l0 (t : Int) (d : Nat) : ∀ i : Nat, i + d = 7 → 1 ≤ i → (∀ j : Nat, 1 ≤ j → j < i → tagOf (j : Int) ≠ t) → Ev (fun k => impl_nameKind.l0 k t (i : Int)) (kindOf t) := by
  induction d with
  | zero =>
    intro i hi h1 hj
    refine Ev.step (fun k => by rw [impl_nameKind.l0]) ?_
    refine ev_neg (by omega) (ev_ret ?_)
    exact (kindOf_none (fun j a b => hj j a (by omega))).symm
  | succ d ih =>
    intro i hi h1 hj
    refine Ev.step (fun k => by rw [impl_nameKind.l0]) ?_
    refine ev_pos (by omega) (ev_bind (ev_eq (impl_nameTag_eq _)) (ev_ite (fun h => ev_ret ?_) (fun h => ?_)))
    · rw [← h, kindOf_tagOf i h1 (by omega)]
    · rw [w64 (by omega) (by omega), show ((i : Int) + 1) = ((i + 1 : Nat) : Int) by omega]
      refine ih (i + 1) (by omega) (by omega) (fun j a b => ?_)
      by_cases e : j = i
      · rw [e]; exact h
      · exact hj j a (by omega)
theorem impl_nameKind_ev (t : Int) : Ev (fun k => impl_nameKind.f k t) (kindOf t) := impl_nameKind_l0 t 6 1 (by omega) (by omega) (fun j a b => by omega)

/-! ### impl_FieldOk -/
theorem impl_FieldOk_ev (f : Int) (hf : 0 ≤ f ∧ f ≤ 4294967295) : Ev (fun k => impl_FieldOk.f k f) (fieldOk f) := by
  have hu := unpackOne_length f
  have hp := pack_length (unpackOne f)
  exact ev_bind (impl_UnpackOne_ev f hf) (ev_bind (impl_Pack_ev _ (by omega)) (ev_bind (slices_Equal_u32_ev _ _ (by omega)) (ev_ret rfl)))

/-! ### impl_parseOne -/
theorem impl_parseOne_j2 (t c : Int) (F : List Int) (hF : ∀ x ∈ F, 0 ≤ x ∧ x ≤ 4294967295) : Ev (fun k => impl_parseOne.j2 k t F 0 ⟨#[]⟩ 0 false c) (tup (wordIt t c F)) := by
  unfold wordIt
  refine Ev.step (fun k => by rw [impl_parseOne.j2]) ?_
  refine ev_bind (impl_Unpack_ev F hF) (ev_ite (fun h => ?_) (fun h => ?_))
  · rw [if_pos h]
    exact ev_bind (impl_nameKind_ev t) (ev_ret rfl)
  · rw [if_neg h]
    exact ev_ret rfl
theorem impl_parseOne_l0 (t c : Int) (suf : List Int) : ∀ pre acc : List Int, pre.length + suf.length ≤ 1000 → acc.length ≤ pre.length + 1 → (∀ x ∈ acc, 0 ≤ x ∧ x ≤ 4294967295) → (∀ x ∈ suf, 0 ≤ x ∧ x ≤ 4294967295) →
    Ev (fun k => impl_parseOne.l0 k t acc (pre ++ suf) ((pre ++ suf).length : Int) (pre.length : Int) 0 ⟨#[]⟩ 0 false c) (tup (wordIt t c (acc ++ (tailOf suf).map (· / 16)))) := by
  induction suf with
  | nil =>
    intro pre acc hl ha hr hs
    refine Ev.step (fun k => by rw [impl_parseOne.l0]) ?_
    rw [tail_nil, List.map_nil, List.append_nil, List.append_nil]
    exact ev_neg (by omega) (impl_parseOne_j2 t c acc hr)
  | cons d suf ih =>
    intro pre acc hl ha hr hs
    have hd := hs d (by simp)
    have hlen : (pre ++ d :: suf).length = pre.length + suf.length + 1 := by rw [List.length_append, List.length_cons]; omega
    rw [List.length_cons] at hl
    refine Ev.step (fun k => by rw [impl_parseOne.l0]) ?_
    rw [rd_mid rfl, and_15 hd]
    refine ev_pos (by omega) (ev_pos (by omega) (ev_pos (by omega) (ev_ite (fun h0 => ?_) (fun h0 => ev_ite (fun h16 => ev_pos (by omega) ?_) (fun h16 => ?_)))))
    · rw [tail_no (by omega), List.map_nil, List.append_nil]
      exact impl_parseOne_j2 t c acc hr
    · have e := ih (pre ++ [d]) (acc ++ [d / 16]) (by rw [List.length_append, List.length_singleton]; omega) (by rw [List.length_append, List.length_append, List.length_singleton, List.length_singleton]; omega) (fun x hx => by
        rcases List.mem_append.1 hx with hx | hx
        · exact hr x hx
        · rw [List.mem_singleton] at hx; rw [hx]; exact range_16 hd) (fun x hx => hs x (by simp [hx]))
      rw [List.append_assoc, List.singleton_append, List.append_assoc, List.singleton_append, show (pre ++ [d]).length = pre.length + 1 by simp] at e
      rw [tail_yes h16 h0, List.map_cons, w64 (by omega) (by omega), show ((pre.length : Int) + 1) = ((pre.length + 1 : Nat) : Int) by omega]
      exact e
    · rw [tail_no (by omega), List.map_nil, List.append_nil]
      exact impl_parseOne_j2 t c acc hr
theorem impl_parseOne_j4 (kd : Int) (s t : Int) (c d : Int) (r : List Int) (hc : 0 ≤ c ∧ c ≤ 4294967295) (hd : 0 ≤ d ∧ d ≤ 4294967295) (ht : c % 16 = t) (hcells : ∀ n h, cellsOf ⟨kd, [], n, h, 0⟩ = numCells n h s t) :
    Ev (fun k => impl_parseOne.j4 k (c :: d :: r) 0 ⟨#[]⟩ 0 false c kd ⟨#[]⟩ (wrap32 d) (hexOf c) 0) (tup (if c < 32 ∧ ¬ (-67108864 ≤ wrap32 d ∧ wrap32 d ≤ 67108863) then ⟨kd, [], wrap32 d, hexOf c, 0⟩ else rawIt c)) := by
  have e := impl_CellsOf_ev ⟨kd, [], wrap32 d, hexOf c, 0⟩ (w32_range d) (by simp)
  rw [hcells] at e
  refine Ev.step (fun k => by rw [impl_parseOne.j4]) ?_
  refine ev_bind e (ev_pos (by simp only [List.length_cons]; omega) (ev_bind (slices_Equal_u32_ev _ _ (by unfold numCells; split <;> simp)) ?_))
  have e2 : (c :: d :: r).take 2 = [c, d] := rfl
  rw [e2]
  by_cases h : c < 32 ∧ ¬ (-67108864 ≤ wrap32 d ∧ wrap32 d ≤ 67108863)
  · rw [if_pos h]
    exact ev_pos (decide_eq_true (long_cells hc hd s t ht h)) (ev_ret rfl)
  · rw [if_neg h]
    exact ev_neg (by simpa using long_cells_not s t ht h) (ev_ret rfl)
theorem impl_parseOne_j3 (c : Int) (rest : List Int) (b : Bool) (hc : 0 ≤ c ∧ c ≤ 4294967295) (hr : ∀ x ∈ rest, 0 ≤ x ∧ x ≤ 4294967295) (hl : rest.length ≤ 100) (hb : b = true ↔ (c % 16 = 2 ∨ c % 16 = 5)) (hk : kindOf (c % 16) = 0) (h8 : c % 16 ≠ 8) (h6 : c % 16 ≠ 6) :
    Ev (fun k => impl_parseOne.j3 k (c :: rest) c (c % 16) (c % 16) b 0 ⟨#[]⟩ 0 false c) (tup (parseOne c rest).1) := by
  refine Ev.step (fun k => by rw [impl_parseOne.j3]) ?_
  rw [and_16 hc]
  by_cases h25 : c % 16 = 2 ∨ c % 16 = 5
  · refine ev_pos (hb.2 h25) ?_
    cases rest with
    | nil =>
      rw [parse_25_nil h25]
      exact ev_pos (by simp) (ev_ret rfl)
    | cons d r =>
      have hd := hr d (by simp)
      have e1 : rd (c :: d :: r) 1 = d := rfl
      rw [e1]
      refine ev_neg (by simp only [List.length_cons]; omega) (ev_pos (by simp only [List.length_cons]; omega) (ev_ite (fun h5 => ?_) (fun h5 => ?_)))
      · have e := impl_parseOne_j4 8 6 5 c d r hc hd h5 cells8
        rw [parse_25 h25, if_pos h5]
        refine ev_to e ?_
        split <;> rfl
      · have e := impl_parseOne_j4 7 8 2 c d r hc hd (by omega) cells7
        rw [parse_25 h25, if_neg h5]
        refine ev_to e ?_
        split <;> rfl
  · refine ev_neg (fun h => h25 (hb.1 h)) ?_
    refine ev_ite (fun h12 => ?_) (fun h12 => ?_)
    · cases rest with
      | nil =>
        rw [parse_12_nil h12]
        exact ev_neg (by simp) (ev_ret rfl)
      | cons d r =>
        have e1 : rd (c :: d :: r) 1 = d := rfl
        rw [e1, parse_12 h12]
        refine ev_pos (by simp only [List.length_cons]; omega) (ev_bind (impl_FieldOk_ev _ (range_16 hc)) (ev_ite (fun hf => ?_) (fun hf => ?_)))
        · rw [if_pos hf]
          exact ev_bind (impl_UnpackOne_ev _ (range_16 hc)) (ev_pos (by simp only [List.length_cons]; omega) (ev_ret rfl))
        · rw [if_neg hf]
          exact ev_ret rfl
    · rw [parse_no hk h8 h6 (by omega) (by omega) h12]
      exact ev_ret rfl
theorem impl_parseOne_j0 (c : Int) (rest : List Int) (b : Bool) (hc : 0 ≤ c ∧ c ≤ 4294967295) (hr : ∀ x ∈ rest, 0 ≤ x ∧ x ≤ 4294967295) (hl : rest.length ≤ 100) (hb : b = true ↔ 0 < kindOf (c % 16)) :
    Ev (fun k => impl_parseOne.j0 k (c :: rest) c (c % 16) (c % 16) b 0 ⟨#[]⟩ 0 false c) (tup (parseOne c rest).1) := by
  refine Ev.step (fun k => by rw [impl_parseOne.j0]) ?_
  have hk := kindOf_cases (c % 16)
  by_cases h : 0 < kindOf (c % 16)
  · refine ev_pos (hb.2 h) (ev_pos (by simp only [List.length_cons]; omega) (ev_some ?_))
    rw [parseOne_word h]
    have e := impl_parseOne_l0 (c % 16) c rest [] [c / 16] (by simp only [List.length_nil]; omega) (by simp) (fun x hx => by rw [List.mem_singleton] at hx; rw [hx]; exact range_16 hc) hr
    exact e
  · refine ev_neg (fun g => h (hb.1 g)) ?_
    rw [and_16 hc]
    refine ev_ite (fun h8 => ?_) (fun h8 => ev_ite (fun h6 => ?_) (fun h6 => ev_ite (fun h2 => ?_) (fun h2 => ?_)))
    · rw [parse_8 h8]; exact ev_ret rfl
    · rw [parse_6 h6]; exact ev_ret rfl
    · exact impl_parseOne_j3 c rest _ hc hr hl (by simp [h2]) (by omega) h8 h6
    · exact impl_parseOne_j3 c rest _ hc hr hl (by rw [beq_iff_eq]; omega) (by omega) h8 h6
theorem impl_parseOne_ev (c : Int) (rest : List Int) (hc : 0 ≤ c ∧ c ≤ 4294967295) (hr : ∀ x ∈ rest, 0 ≤ x ∧ x ≤ 4294967295) (hl : rest.length ≤ 100) : Ev (fun k => impl_parseOne.f k (c :: rest)) (tup (parseOne c rest).1) := by
  have e0 : rd (c :: rest) 0 = c := rfl
  have hk := kindOf_cases (c % 16)
  have key := fun b hb => impl_parseOne_j0 c rest b hc hr hl hb
  have hbb : ∀ v : Int, (v = 1 ∨ v = 3 ∨ v = 4 ∨ v = 9 ∨ v = 10 ∨ v = 11) → (c % 16 = v ∨ (c % 16 ≠ 1 ∧ c % 16 ≠ 3 ∧ c % 16 ≠ 4 ∧ c % 16 ≠ 9 ∧ c % 16 ≠ 10 ∧ v = 11)) → ((c % 16 == v) = true ↔ 0 < kindOf (c % 16)) := by
    intro v hv h
    rw [beq_iff_eq]
    omega
  unfold impl_parseOne.f
  rw [e0, and_15 hc]
  refine ev_pos (by simp only [List.length_cons]; omega) ?_
  refine ev_ite (fun h => key _ (hbb _ (by omega) (.inl h))) (fun h1 => ?_)
  refine ev_ite (fun h => key _ (hbb _ (by omega) (.inl h))) (fun h3 => ?_)
  refine ev_ite (fun h => key _ (hbb _ (by omega) (.inl h))) (fun h4 => ?_)
  refine ev_ite (fun h => key _ (hbb _ (by omega) (.inl h))) (fun h9 => ?_)
  refine ev_ite (fun h => key _ (hbb _ (by omega) (.inl h))) (fun h10 => ?_)
  exact key _ (hbb _ (by omega) (.inr ⟨h1, h3, h4, h9, h10, rfl⟩))

/-! ### toS -/
def toS (it : It) : S46 := ⟨it.kind, toB it.name, it.n, it.hex, it.raw⟩
theorem toS_zero (it : It) : ((it.kind == 0 && ((toB it.name).toList == ([] : List UInt8) && (it.n == 0 && (!it.hex && (it.raw == 0))))) = true) ↔ it = rawIt 0 := by
  obtain ⟨a, b, c, d, e⟩ := it
  simp only [Bool.and_eq_true, beq_iff_eq, toB_nil_iff, Bool.not_eq_true', rawIt, It.mk.injEq]
theorem trimR_snoc (l : List It) (it : It) : trimR (l ++ [it]) = if it = rawIt 0 then trimR l else l ++ [it] := by
  unfold trimR
  rw [List.reverse_append, List.reverse_singleton, List.singleton_append, List.dropWhile_cons]
  by_cases h : it = rawIt 0
  · rw [if_pos (decide_eq_true h), if_pos h]
  · rw [if_neg (by simpa using h), if_neg h, List.reverse_cons, List.reverse_reverse]
theorem rd_last (l : List It) (it : It) : rd_T46 ((l ++ [it]).map toS) (l.length : Int) = toS it := by simp [rd_T46]

/-! ### impl_ParseCells -/
theorem impl_ParseCells_l1 (n : Nat) : ∀ l : List It, l.length = n → l.length ≤ 1000 → Ev (fun k => impl_ParseCells.l1 k (l.map toS) (wrap64 (((l.map toS).length : Int) - 1))) ((trimR l).map toS) := by
  induction n with
  | zero =>
    intro l hn hl
    obtain rfl : l = [] := List.eq_nil_of_length_eq_zero hn
    refine Ev.step (fun k => by rw [impl_ParseCells.l1]) ?_
    exact ev_neg (by rw [List.map_nil, List.length_nil, w64 (by omega) (by omega)]; omega) (ev_ret rfl)
  | succ n ih =>
    intro l hn hl
    obtain ⟨m, it, rfl⟩ : ∃ (m : List It) (it : It), l = m ++ [it] := by
      have hne : l ≠ [] := by intro e; rw [e] at hn; simp at hn
      exact ⟨l.dropLast, l.getLast hne, (List.dropLast_concat_getLast hne).symm⟩
    rw [List.length_append, List.length_singleton] at hn hl
    have hlen : ((m ++ [it]).map toS).length = m.length + 1 := by simp
    have next := ih m (by omega) (by omega)
    rw [List.length_map] at next
    have htake : ((m ++ [it]).map toS).take m.length = m.map toS := by rw [List.map_append]; exact List.take_left' (by simp)
    rw [hlen, w64 (by omega) (by omega), show ((m.length + 1 : Nat) : Int) - 1 = (m.length : Int) by omega]
    refine Ev.step (fun k => by rw [impl_ParseCells.l1]) ?_
    rw [rd_last, hlen, Int.toNat_natCast, htake, trimR_snoc]
    refine ev_pos (by omega) (ev_pos (by omega) (ev_pos (by omega) (ev_ite (fun h => ev_pos (by omega) ?_) (fun h => ev_ret ?_))))
    · rw [if_pos ((toS_zero it).1 h)]
      exact next
    · rw [if_neg (fun g => h ((toS_zero it).2 g))]
theorem impl_ParseCells_l0 (n : Nat) : ∀ (l : List Int) (out : List It), l.length ≤ n → l.length + out.length ≤ 100 → (∀ x ∈ l, 0 ≤ x ∧ x ≤ 4294967295) → Ev (fun k => impl_ParseCells.l0 k l (out.map toS)) ((trimR (out ++ parseF n l)).map toS) := by
  induction n with
  | zero =>
    intro l out hn ho hr
    obtain rfl : l = [] := List.eq_nil_of_length_eq_zero (by omega)
    refine Ev.step (fun k => by rw [impl_ParseCells.l0]) ?_
    rw [parseF, List.append_nil]
    rw [List.length_nil] at ho
    exact ev_neg (by simp) (impl_ParseCells_l1 out.length out rfl (by omega))
  | succ n ih =>
    intro l out hn ho hr
    cases l with
    | nil =>
      refine Ev.step (fun k => by rw [impl_ParseCells.l0]) ?_
      rw [parseF, List.append_nil]
      rw [List.length_nil] at ho
      exact ev_neg (by simp) (impl_ParseCells_l1 out.length out rfl (by omega))
      all_goals simp
    | cons c rest =>
      rw [List.length_cons] at hn ho
      have hc := hr c (by simp)
      have hrest : ∀ x ∈ rest, 0 ≤ x ∧ x ≤ 4294967295 := fun x hx => hr x (by simp [hx])
      obtain ⟨h1, h2, h3⟩ := cells_one c rest hc hrest
      obtain ⟨hs1, hs2⟩ := one_small c rest
      have hlen : (cellsOf (parseOne c rest).1).length = (parseOne c rest).2 := by rw [h1, List.length_take, List.length_cons]; omega
      have e1 := impl_parseOne_ev c rest hc hrest (by omega)
      have e2 := impl_CellsOf_ev (parseOne c rest).1 hs1 hs2
      have next := ih ((c :: rest).drop (parseOne c rest).2) (out ++ [(parseOne c rest).1]) (by rw [List.length_drop, List.length_cons]; omega) (by rw [List.length_drop, List.length_cons, List.length_append, List.length_singleton]; omega) (drop_mem hr _)
      rw [List.append_assoc, List.singleton_append, List.map_append, List.map_cons, List.map_nil] at next
      refine Ev.step (fun k => by rw [impl_ParseCells.l0]) ?_
      rw [parseF]
      refine ev_pos (by rw [List.length_cons]; omega) (ev_bind e1 (ev_pos (by rw [List.length_map]; omega) (ev_bind e2 (ev_pos (by omega) (ev_pos (by rw [List.length_cons]; omega) ?_)))))
      rw [Int.toNat_natCast, hlen]
      exact next
theorem impl_ParseCells_ev (l : List Int) (hl : l.length ≤ 70368744177664) (hr : ∀ x ∈ l, 0 ≤ x ∧ x ≤ 4294967295) : Ev (fun k => impl_ParseCells.f k l) ((parse l).map toS) := by
  unfold parse
  by_cases h : l.length > 64
  · rw [if_pos h]
    exact ev_pos (by omega) (ev_ret rfl)
  · rw [if_neg h]
    exact ev_neg (by omega) (impl_ParseCells_l0 l.length l [] (Nat.le_refl _) (by simp only [List.length_nil]; omega) hr)

/-! ### impl_ItemOk -/
theorem impl_ItemOk_ev (it : It) (hn : -2147483648 ≤ it.n ∧ it.n ≤ 2147483647) (hs : it.name.length ≤ 1048576) : Ev (fun k => impl_ItemOk.f k it.kind (toB it.name) it.n it.hex it.raw) (decide (0 < (cellsOf it).length)) := by
  refine ev_bind (impl_CellsOf_ev it hn hs) (ev_ret ?_)
  rw [Bool.eq_iff_iff, decide_eq_true_eq, decide_eq_true_eq]; omega

/-! ### hexL -/
/-- The digits, none for nought. -/
def hexN (u : Nat) : List UInt8 := if u = 0 then [] else Hex.hexL u
theorem hexN_step (u : Nat) (h : u ≠ 0) : hexN u = hexN (u / 16) ++ [Hex.hexDig (u % 16)] := by
  unfold hexN
  rw [if_neg h]
  by_cases h1 : u < 16
  · rw [Hex.hexL_small h1, if_pos (by omega), Nat.mod_eq_of_lt h1]; rfl
  · rw [Hex.hexL_step h1, if_neg (by omega)]
theorem hex_cut (d : Nat) (h : d < 16) : (⟨#[48, 49, 50, 51, 52, 53, 54, 55, 56, 57, 97, 98, 99, 100, 101, 102]⟩ : ByteArray).extract d (d + 1) = toB [Hex.hexDig d] := by
  rw [extract_eq]
  apply congrArg toB
  match d, h with
  | 0, _ => rfl
  | 1, _ => rfl
  | 2, _ => rfl
  | 3, _ => rfl
  | 4, _ => rfl
  | 5, _ => rfl
  | 6, _ => rfl
  | 7, _ => rfl
  | 8, _ => rfl
  | 9, _ => rfl
  | 10, _ => rfl
  | 11, _ => rfl
  | 12, _ => rfl
  | 13, _ => rfl
  | 14, _ => rfl
  | 15, _ => rfl
  | n + 16, h => omega
theorem tmod16 (u : Nat) : Int.tmod (u : Int) 16 = ((u % 16 : Nat) : Int) := rfl
theorem tdiv16 (u : Nat) : Int.tdiv (u : Int) 16 = ((u / 16 : Nat) : Int) := rfl

/-! ### impl_HexText -/
theorem impl_HexText_eq (u : Nat) (h1 : u ≤ 4294967295) : impl_HexText.f (u : Int) = some (toB (Hex.hexL u)) := if_pos ⟨by omega, by omega⟩

/-! ### impl_DecText -/
theorem impl_DecText_eq (n : Int) (h0 : -9223372036854775808 ≤ n) (h1 : n ≤ 9223372036854775807) : impl_DecText.f n = some (toB (Lib.itoa n)) := if_pos ⟨h0, h1⟩

/-! ### readHex -/
def hexS (b : UInt8) : Option Nat := if 48 ≤ b.toNat ∧ b.toNat ≤ 57 then some (b.toNat - 48) else if 97 ≤ b.toNat ∧ b.toNat ≤ 102 then some (b.toNat - 87) else none
def sfold (acc : Nat) : List UInt8 → Option Nat
  | [] => some acc
  | b :: r => match hexS b with
    | none => none
    | some d => sfold (acc * 16 + d) r
theorem sfold_snoc (b : UInt8) (l : List UInt8) : ∀ acc, sfold acc (l ++ [b]) = (sfold acc l).bind fun x => (hexS b).map fun d => x * 16 + d := by
  induction l with
  | nil => intro acc; simp only [List.nil_append, sfold]; cases hexS b <;> rfl
  | cons c l ih =>
    intro acc
    simp only [List.cons_append, sfold]
    cases hexS c with
    | none => rfl
    | some d => exact ih _
theorem hexS_dig (d : Nat) (h : d < 16) : hexS (Hex.hexDig d) = some d := by
  match d, h with
  | 0, _ => rfl
  | 1, _ => rfl
  | 2, _ => rfl
  | 3, _ => rfl
  | 4, _ => rfl
  | 5, _ => rfl
  | 6, _ => rfl
  | 7, _ => rfl
  | 8, _ => rfl
  | 9, _ => rfl
  | 10, _ => rfl
  | 11, _ => rfl
  | 12, _ => rfl
  | 13, _ => rfl
  | 14, _ => rfl
  | 15, _ => rfl
  | n + 16, h => omega
theorem sfold_hexL (u : Nat) : sfold 0 (Hex.hexL u) = some u := by
  induction u using Nat.strongRecOn with
  | _ u ih =>
    by_cases h : u < 16
    · rw [Hex.hexL_small h]
      simp only [sfold, hexS_dig u h]
      congr 1; omega
    · rw [Hex.hexL_step h, sfold_snoc, ih (u / 16) (by omega), hexS_dig _ (Nat.mod_lt _ (by decide))]
      simp only [Option.bind_some, Option.map_some]
      congr 1; omega
theorem hexL_len (k : Nat) : ∀ u, u < 16 ^ (k + 1) → (Hex.hexL u).length ≤ k + 1 ∧ 1 ≤ (Hex.hexL u).length := by
  induction k with
  | zero => intro u hu; rw [Hex.hexL_small (by simpa using hu)]; simp
  | succ k ih =>
    intro u hu
    by_cases h : u < 16
    · rw [Hex.hexL_small h]; simp
    · rw [Hex.hexL_step h, List.length_append, List.length_singleton]
      rw [Nat.pow_succ] at hu
      have := ih (u / 16) (by omega)
      omega
def isHex (l : List UInt8) : Prop := ∃ u, u < 4294967296 ∧ Hex.hexL u = l
open Classical in
noncomputable def hexR (l : List UInt8) : Int × Bool := if h : isHex l then ((Classical.choose h : Nat), true) else (0, false)
theorem hexL_inj {a b : Nat} (h : Hex.hexL a = Hex.hexL b) : a = b := by
  have e := sfold_hexL a
  rw [h, sfold_hexL b] at e
  exact (Option.some.inj e).symm
theorem hexR_of {u : Nat} (h : u < 4294967296) : hexR (Hex.hexL u) = ((u : Int), true) := by
  have hx : isHex (Hex.hexL u) := ⟨u, h, rfl⟩
  unfold hexR
  rw [dif_pos hx, hexL_inj (Classical.choose_spec hx).2]
theorem hexR_no {l : List UInt8} (h : ¬ isHex l) : hexR l = (0, false) := dif_neg h
/-- What the reading comes to behind so many digits. -/
def redH (l : List UInt8) (acc : Nat) (r : List UInt8) : Int × Bool := match sfold acc r with
  | none => (0, false)
  | some n => if Hex.hexL (n % 4294967296) = l then (((n % 4294967296 : Nat) : Int), true) else (0, false)
theorem redH_all (l : List UInt8) : redH l 0 l = hexR l := by
  unfold redH
  by_cases hx : isHex l
  · obtain ⟨u, hu, rfl⟩ := hx
    rw [sfold_hexL, hexR_of hu]
    simp only [Nat.mod_eq_of_lt hu, if_true]
  · rw [hexR_no hx]
    split
    · rfl
    · rename_i n _
      exact if_neg (fun e => hx ⟨n % 4294967296, Nat.mod_lt _ (by decide), e⟩)
theorem redH_dig (l : List UInt8) (acc d : Nat) (b : UInt8) (r : List UInt8) (h : hexS b = some d) : redH l acc (b :: r) = redH l (acc * 16 + d) r := by
  unfold redH
  simp only [sfold, h]
theorem redH_bad (l : List UInt8) (acc : Nat) (b : UInt8) (r : List UInt8) (h : hexS b = none) : redH l acc (b :: r) = (0, false) := by
  unfold redH
  simp only [sfold, h]

/-! ### itemText -/
def numL (n : Int) (hex : Bool) : List UInt8 := if hex = true then 36 :: Hex.hexL (n % 4294967296).toNat else 35 :: Lib.itoa n
def markL (k : Int) : List UInt8 := if k = 1 then [126] else if k = 7 then [126] else if k = 2 then [58] else if k = 3 then [61] else if k = 8 then [61] else if k = 4 then [34] else if k = 5 then [94] else if k = 6 then [95] else if k = 9 then [38] else [37]
def itemText (it : It) : List UInt8 := if 0 < (cellsOf it).length then (if it.kind = 7 ∨ it.kind = 8 then markL it.kind ++ numL it.n it.hex else if it.kind = 9 then markL 9 ++ it.name ++ (35 :: Lib.itoa it.n) else if it.kind = 0 then markL 0 ++ Hex.hexL it.raw.toNat else markL it.kind ++ it.name) else []
theorem itoa_len32 {n : Int} (h : -2147483648 ≤ n ∧ n ≤ 2147483647) : (Lib.itoa n).length ≤ 21 := Lib.itoa_length_le n (by omega) (by omega)
theorem hexL_len32 {u : Nat} (h : u < 4294967296) : (Hex.hexL u).length ≤ 8 := (hexL_len 7 u h).1
theorem kind_of_ok (it : It) (h : 0 < (cellsOf it).length) : 0 ≤ it.kind ∧ it.kind ≤ 9 := by
  by_cases h1 : 0 ≤ it.kind ∧ it.kind ≤ 9
  · exact h1
  · exfalso
    have e : cellsOf it = [] := by
      unfold cellsOf
      rw [if_neg (by omega), if_neg (by omega), if_neg (by omega), if_neg (by omega), if_neg]
      rintro ⟨h2, _⟩
      unfold tagOf at h2
      rw [if_neg (by omega), if_neg (by omega), if_neg (by omega), if_neg (by omega), if_neg (by omega), if_neg (by omega)] at h2
      omega
    rw [e] at h
    simp at h
theorem markL_len (k : Int) : (markL k).length = 1 := by
  unfold markL
  repeat' split
  all_goals rfl

/-! ### impl_digits -/
theorem impl_digits_eq (n : Int) (hex : Bool) (h : -2147483648 ≤ n ∧ n ≤ 2147483647) : impl_digits.f n hex = some (toB (numL n hex)) := by
  unfold impl_digits.f numL
  have hm : n % 4294967296 = (((n % 4294967296).toNat : Nat) : Int) := by omega
  cases hex with
  | true =>
    have hl := hexL_len32 (u := (n % 4294967296).toNat) (by omega)
    rw [if_pos rfl, if_pos rfl, hm, impl_HexText_eq _ (by omega)]
    simp only [Option.bind_some]
    rw [if_pos (by rw [toB_size]; omega), show (⟨#[36]⟩ : ByteArray) = toB [36] from rfl, toB_append']
    rfl
  | false =>
    have hl := itoa_len32 h
    rw [if_neg (by simp), if_neg (by simp), w64 (by omega) (by omega), impl_DecText_eq n (by omega) (by omega)]
    simp only [Option.bind_some]
    rw [if_pos (by rw [toB_size]; omega), show (⟨#[35]⟩ : ByteArray) = toB [35] from rfl, toB_append']
    rfl

/-! ### impl_mark -/
theorem impl_mark_eq (x : Int) (h : 1 ≤ x ∧ x ≤ 6) : impl_mark.f x = some (toB (markL x)) := by
  have : x = 1 ∨ x = 2 ∨ x = 3 ∨ x = 4 ∨ x = 5 ∨ x = 6 := by omega
  rcases this with rfl | rfl | rfl | rfl | rfl | rfl <;> rfl

/-! ### impl_ItemText -/
theorem impl_ItemText_ev (it : It) (hn : -2147483648 ≤ it.n ∧ it.n ≤ 2147483647) (hr : 0 ≤ it.raw ∧ it.raw ≤ 4294967295) (hl : it.name.length ≤ 1048576) :
    Ev (fun k => impl_ItemText.f k it.kind (toB it.name) it.n it.hex it.raw) (toB (itemText it)) := by
  refine ev_bind (impl_ItemOk_ev it hn hl) ?_
  unfold itemText
  by_cases hok : 0 < (cellsOf it).length
  · rw [if_pos hok]
    have hk := kind_of_ok it hok
    have hnl : ∀ b, (numL it.n b).length ≤ 30 := by
      intro b
      unfold numL
      have := itoa_len32 hn
      have := hexL_len32 (u := (it.n % 4294967296).toNat) (by omega)
      split <;> (rw [List.length_cons]; omega)
    have hrr : it.raw = ((it.raw.toNat : Nat) : Int) := by omega
    have hrl := hexL_len32 (u := it.raw.toNat) (by omega)
    refine ev_pos (decide_eq_true hok) ?_
    refine ev_ite (fun h0 => ?_) (fun h0 => ?_)
    · rw [if_neg (show ¬(it.kind = 7 ∨ it.kind = 8) by omega), if_neg (show ¬ it.kind = 9 by omega), if_pos h0]
      refine ev_bind (ev_eq (by rw [hrr]; exact impl_HexText_eq it.raw.toNat (by omega))) (ev_pos (by rw [toB_size]; omega) (ev_ret ?_))
      rw [show (⟨#[37]⟩ : ByteArray) = toB [37] from rfl, toB_append']; rfl
    · refine ev_ite (fun h7 => ?_) (fun h7 => ?_)
      · rw [if_pos (.inl h7), h7]
        refine ev_bind (ev_eq (impl_digits_eq _ _ hn)) (ev_pos (by rw [toB_size]; have := hnl it.hex; omega) (ev_ret ?_))
        rw [show (⟨#[126]⟩ : ByteArray) = toB [126] from rfl, toB_append']; rfl
      · refine ev_ite (fun h8 => ?_) (fun h8 => ?_)
        · rw [if_pos (.inr h8), h8]
          refine ev_bind (ev_eq (impl_digits_eq _ _ hn)) (ev_pos (by rw [toB_size]; have := hnl it.hex; omega) (ev_ret ?_))
          rw [show (⟨#[61]⟩ : ByteArray) = toB [61] from rfl, toB_append']; rfl
        · rw [if_neg (show ¬(it.kind = 7 ∨ it.kind = 8) by omega)]
          refine ev_ite (fun h9 => ?_) (fun h9 => ?_)
          · rw [if_pos h9]
            refine ev_pos (by rw [toB_size]; omega) (ev_bind (ev_eq (impl_digits_eq _ _ hn)) (ev_pos ?_ (ev_ret ?_)))
            · rw [show (⟨#[38]⟩ : ByteArray) = toB [38] from rfl, toB_append', toB_size, toB_size, List.length_append, List.length_singleton]; have := hnl false; omega
            · rw [show (⟨#[38]⟩ : ByteArray) = toB [38] from rfl, toB_append', toB_append']; rfl
          · rw [if_neg h9, if_neg h0]
            have hml := markL_len it.kind
            refine ev_bind (ev_eq (impl_mark_eq _ (by omega))) (ev_pos (by rw [toB_size, toB_size]; omega) (ev_ret ?_))
            rw [toB_append']
  · rw [if_neg hok]
    exact ev_neg (by simpa using hok) (ev_ret rfl)

/-! ### reads -/
noncomputable def smallR (d : List UInt8) : Int := wrap32 (decR d).1
noncomputable def dec32 (d : List UInt8) : Int × Bool := if (decR d).2 = true ∧ -2147483648 ≤ (decR d).1 ∧ (decR d).1 ≤ 2147483647 then ((decR d).1, true) else (0, false)
/-- What stands ahead of the first '#', and what behind it. -/
def cutN (l : List UInt8) : List UInt8 := l.takeWhile (fun b => decide (b ≠ 35))
def cutD (l : List UInt8) : List UInt8 := l.drop ((cutN l).length + 1)
def nameK (c : UInt8) : Int := if c = 126 then 1 else if c = 58 then 2 else if c = 61 then 3 else if c = 34 then 4 else if c = 94 then 5 else if c = 95 then 6 else 0
def nameIt (c : UInt8) (r : List UInt8) : It := if nameK c = 0 then rawIt 0 else ⟨nameK c, r, 0, false, 0⟩
noncomputable def numIt (k : Int) (c : UInt8) (r : List UInt8) : It :=
  if r.take 1 = [35] then ⟨k, [], smallR (r.drop 1), false, 0⟩ else if r.take 1 = [36] then ⟨k, [], wrap32 (hexR (r.drop 1)).1, true, 0⟩ else nameIt c r
noncomputable def readOf (c : UInt8) (r : List UInt8) : It :=
  if c = 37 then rawIt (hexR r).1 else if c = 38 then ⟨9, cutN r, smallR (cutD r), false, 0⟩ else numIt (if c = 61 then 8 else 7) c r
noncomputable def readItem (l : List UInt8) : It := match l with
  | [] => rawIt 0
  | c :: r => readOf c r
noncomputable def readR (l : List UInt8) : It × Bool := if l ≠ [] ∧ itemText (readItem l) = l then (readItem l, true) else (rawIt 0, false)
noncomputable def tailR (k : Int) (s : List UInt8) : It × Bool :=
  if k = 0 then (rawIt (hexR s).1, (hexR s).2)
  else if k = 7 ∨ k = 8 then (if s.take 1 = [36] then (⟨k, [], wrap32 (hexR (s.drop 1)).1, true, 0⟩, (hexR (s.drop 1)).2) else (⟨k, [], (dec32 (s.drop 1)).1, false, 0⟩, (dec32 (s.drop 1)).2))
  else if k = 9 then (if 35 ∈ s then (⟨9, cutN s, (dec32 (cutD s)).1, false, 0⟩, (dec32 (cutD s)).2) else (rawIt 0, false))
  else (⟨k, s, 0, false, 0⟩, true)
/-- Does what stands behind the mark begin like a number. -/
def numB (r : List UInt8) : Bool := decide (r.take 1 = [35]) || decide (r.take 1 = [36])
def inR (it : It) : Prop := (-2147483648 ≤ it.n ∧ it.n ≤ 2147483647) ∧ 0 ≤ it.raw ∧ it.raw ≤ 4294967295
theorem z32 : -2147483648 ≤ (0 : Int) ∧ (0 : Int) ≤ 2147483647 := by decide
theorem zu32 : 0 ≤ (0 : Int) ∧ (0 : Int) ≤ 4294967295 := by decide
theorem lo35 : ¬ 1 ≤ lo 35 := by decide +kernel
theorem lo36 : ¬ 1 ≤ lo 36 := by decide +kernel
theorem w32r {n : Int} (h : -2147483648 ≤ n ∧ n ≤ 2147483647) : wrap32 n = n := w32 h.1 h.2
theorem w32m {n : Int} (h : -2147483648 ≤ n ∧ n ≤ 2147483647) : wrap32 (n % 4294967296) = n := by unfold wrap32; omega
theorem w32_range (n : Int) : -2147483648 ≤ wrap32 n ∧ wrap32 n ≤ 2147483647 := by unfold wrap32; omega
theorem hexR_range (l : List UInt8) : 0 ≤ (hexR l).1 ∧ (hexR l).1 ≤ 4294967295 := by
  by_cases h : isHex l
  · obtain ⟨u, hu, rfl⟩ := h
    rw [hexR_of hu]
    show 0 ≤ (u : Int) ∧ (u : Int) ≤ 4294967295
    omega
  · rw [hexR_no h]
    exact ⟨by decide, by decide⟩
theorem dec32_range (d : List UInt8) : -2147483648 ≤ (dec32 d).1 ∧ (dec32 d).1 ≤ 2147483647 := by
  unfold dec32
  split
  · rename_i h; exact h.2
  · exact ⟨by decide, by decide⟩
theorem hexL_ne (u : Nat) : Hex.hexL u ≠ [] := by
  by_cases h : u < 16
  · rw [Hex.hexL_small h]; simp
  · rw [Hex.hexL_step h]; simp
theorem hexL_num (u : Nat) : numB (Hex.hexL u) = false := by
  have e := sfold_hexL u
  obtain ⟨b, r, hb⟩ := List.exists_cons_of_ne_nil (hexL_ne u)
  rw [hb] at e ⊢
  unfold numB
  rw [Bool.or_eq_false_iff, decide_eq_false_iff_not, decide_eq_false_iff_not]
  constructor
  · intro h
    obtain rfl : b = 35 := by simpa using h
    simp [sfold, hexS] at e
  · intro h
    obtain rfl : b = 36 := by simpa using h
    simp [sfold, hexS] at e
theorem decR_itoa32 {n : Int} (h : -2147483648 ≤ n ∧ n ≤ 2147483647) : decR (Lib.itoa n) = (n, true) := decR_itoa (by omega) (by omega)
theorem smallR_itoa {n : Int} (h : -2147483648 ≤ n ∧ n ≤ 2147483647) : smallR (Lib.itoa n) = n := by unfold smallR; rw [decR_itoa32 h]; exact w32r h
theorem dec32_itoa {n : Int} (h : -2147483648 ≤ n ∧ n ≤ 2147483647) : dec32 (Lib.itoa n) = (n, true) := by unfold dec32; rw [decR_itoa32 h]; exact if_pos ⟨rfl, h⟩
theorem hexR_mod {n : Int} : hexR (Hex.hexL (n % 4294967296).toNat) = (n % 4294967296, true) := by
  rw [hexR_of (by omega)]
  congr 1; omega
theorem cutN_at {p q : List UInt8} (h : ∀ b ∈ p, b ≠ 35) : cutN (p ++ 35 :: q) = p := by
  unfold cutN
  rw [List.takeWhile_append_of_pos (by simpa using h), List.takeWhile_cons_of_neg (by simp), List.append_nil]
theorem cutD_at {p q : List UInt8} (h : ∀ b ∈ p, b ≠ 35) : cutD (p ++ 35 :: q) = q := by
  unfold cutD
  rw [cutN_at h, List.drop_append, List.drop_of_length_le (by omega), show p.length + 1 - p.length = 1 by omega]
  rfl
theorem pack_letters {l : List UInt8} (h : pack l ≠ []) : 1 ≤ l.length ∧ l.length ≤ 24 ∧ ∀ b ∈ l, b ≠ 35 ∧ b ≠ 36 := by
  unfold pack at h
  by_cases ho : okName l = true
  · obtain ⟨h1, h2, h3⟩ := (okName_iff l).1 ho
    exact ⟨h1, h2, fun b hb => ⟨fun e => lo35 (e ▸ h3 b hb), fun e => lo36 (e ▸ h3 b hb)⟩⟩
  · rw [if_neg ho] at h; exact absurd rfl h
theorem num_letters {l q : List UInt8} (h0 : 1 ≤ l.length) (h : ∀ b ∈ l, b ≠ 35 ∧ b ≠ 36) : numB (l ++ q) = false := by
  obtain ⟨b, r, rfl⟩ := List.exists_cons_of_ne_nil (List.ne_nil_of_length_pos h0)
  have hb := h b (by simp)
  unfold numB
  simp [hb.1, hb.2]
theorem numB_false {r : List UInt8} (h : numB r = false) : r.take 1 ≠ [35] ∧ r.take 1 ≠ [36] := by
  unfold numB at h
  simpa using h
/-- What an item that has cells reads like. -/
theorem text_shape (it : It) (hr : inR it) (hok : 0 < (cellsOf it).length) :
    ∃ m r, itemText it = m :: r ∧ markL it.kind = [m] ∧ r ≠ [] ∧ numB r = decide (it.kind = 7 ∨ it.kind = 8) ∧ tailR it.kind r = (it, true) ∧ readOf m r = it := by
  obtain ⟨hn, hw⟩ := hr
  have hk := kind_of_ok it hok
  obtain ⟨kind, name, n, hex, raw⟩ := it
  unfold itemText
  rw [if_pos hok]
  simp only at hk hn hw hok ⊢
  by_cases k0 : kind = 0
  · subst k0
    unfold cellsOf at hok
    rw [if_pos rfl] at hok
    by_cases hc : name = [] ∧ n = 0 ∧ hex = false
    · obtain ⟨rfl, rfl, rfl⟩ := hc
      refine ⟨37, Hex.hexL raw.toNat, rfl, rfl, hexL_ne _, by rw [hexL_num]; rfl, ?_, ?_⟩
      · show (rawIt (hexR (Hex.hexL raw.toNat)).1, (hexR (Hex.hexL raw.toNat)).2) = _
        rw [hexR_of (by omega)]
        show (rawIt (raw.toNat : Int), true) = _
        rw [show (raw.toNat : Int) = raw by omega]; rfl
      · show rawIt (hexR (Hex.hexL raw.toNat)).1 = _
        rw [hexR_of (by omega)]
        show rawIt (raw.toNat : Int) = _
        rw [show (raw.toNat : Int) = raw by omega]; rfl
    · rw [if_neg hc] at hok; simp at hok
  by_cases k7 : kind = 7 ∨ kind = 8
  · rw [if_pos k7]
    have hc : name = [] ∧ raw = 0 := by
      by_cases hc : name = [] ∧ raw = 0
      · exact hc
      · unfold cellsOf at hok
        simp only at hok
        rw [if_neg k0] at hok
        rcases k7 with rfl | rfl
        · rw [if_pos rfl, if_neg hc] at hok; simp at hok
        · rw [if_neg (by decide), if_pos rfl, if_neg hc] at hok; simp at hok
    obtain ⟨rfl, rfl⟩ := hc
    have hm : ∃ m, markL kind = [m] ∧ (m = 126 ∧ kind = 7 ∨ m = 61 ∧ kind = 8) := by
      rcases k7 with rfl | rfl
      · exact ⟨126, rfl, .inl ⟨rfl, rfl⟩⟩
      · exact ⟨61, rfl, .inr ⟨rfl, rfl⟩⟩
    obtain ⟨m, hm1, hm2⟩ := hm
    have hmk : (if m = 61 then (8 : Int) else 7) = kind := by
      rcases hm2 with ⟨rfl, rfl⟩ | ⟨rfl, rfl⟩ <;> rfl
    have hm37 : ¬ m = 37 := by rcases hm2 with ⟨rfl, _⟩ | ⟨rfl, _⟩ <;> decide
    have hm38 : ¬ m = 38 := by rcases hm2 with ⟨rfl, _⟩ | ⟨rfl, _⟩ <;> decide
    refine ⟨m, numL n hex, by rw [hm1]; rfl, hm1, ?_, ?_, ?_, ?_⟩
    · unfold numL; split <;> simp
    · rw [decide_eq_true k7]; unfold numL numB; split <;> simp
    · unfold tailR
      rw [if_neg k0, if_pos k7]
      cases hex with
      | true =>
        rw [if_pos (show (numL n true).take 1 = [36] from rfl), show (numL n true).drop 1 = Hex.hexL (n % 4294967296).toNat from rfl, hexR_mod, w32m hn]
      | false =>
        rw [if_neg (show ¬ (numL n false).take 1 = [36] from (show ¬ ([35] : List UInt8) = [36] by decide)), show (numL n false).drop 1 = Lib.itoa n from rfl, dec32_itoa hn]
    · unfold readOf numIt
      rw [if_neg hm37, if_neg hm38, hmk]
      cases hex with
      | true =>
        rw [if_neg (show ¬ (numL n true).take 1 = [35] from (show ¬ ([36] : List UInt8) = [35] by decide)), if_pos (show (numL n true).take 1 = [36] from rfl), show (numL n true).drop 1 = Hex.hexL (n % 4294967296).toNat from rfl, hexR_mod, w32m hn]
      | false =>
        rw [if_pos (show (numL n false).take 1 = [35] from rfl), show (numL n false).drop 1 = Lib.itoa n from rfl, smallR_itoa hn]
  rw [if_neg k7]
  by_cases k9 : kind = 9
  · subst k9
    unfold cellsOf at hok
    rw [if_neg (by simp), if_neg (by simp), if_neg (by simp), if_pos rfl] at hok
    by_cases hc : hex = false ∧ raw = 0 ∧ (pack name).length = 1
    · obtain ⟨rfl, rfl, hp⟩ := hc
      obtain ⟨h1, h2, h3⟩ := pack_letters (l := name) (by intro e; rw [e] at hp; simp at hp)
      have h35 : ∀ b ∈ name, b ≠ 35 := fun b hb => (h3 b hb).1
      refine ⟨38, name ++ 35 :: Lib.itoa n, by rw [if_pos rfl]; rfl, rfl, by simp, by rw [num_letters h1 h3]; rfl, ?_, ?_⟩
      · unfold tailR
        rw [if_neg (by decide), if_neg (by decide), if_pos rfl, if_pos (by simp), cutN_at h35, cutD_at h35, dec32_itoa hn]
      · unfold readOf
        rw [if_neg (by decide), if_pos rfl, cutN_at h35, cutD_at h35, smallR_itoa hn]
    · rw [if_neg hc] at hok; simp at hok
  · rw [if_neg k9, if_neg k0]
    unfold cellsOf at hok
    rw [if_neg k0, if_neg (show ¬ kind = 7 by omega), if_neg (show ¬ kind = 8 by omega), if_neg k9] at hok
    by_cases hc : 0 < tagOf kind ∧ n = 0 ∧ hex = false ∧ raw = 0
    · obtain ⟨ht, rfl, rfl, rfl⟩ := hc
      rw [if_pos ⟨ht, rfl, rfl, rfl⟩, word_length] at hok
      obtain ⟨h1, h2, h3⟩ := pack_letters (l := name) (by intro e; rw [e] at hok; simp at hok)
      have hnum : numB name = false := by have := num_letters (q := []) h1 h3; rwa [List.append_nil] at this
      obtain ⟨n1, n2⟩ := numB_false hnum
      have key : ∀ (m : UInt8), markL kind = [m] → nameK m = kind → m ≠ 37 → m ≠ 38 → ∃ m r, markL kind ++ name = m :: r ∧ markL kind = [m] ∧ r ≠ [] ∧ numB r = decide (kind = 7 ∨ kind = 8) ∧ tailR kind r = (⟨kind, name, 0, false, 0⟩, true) ∧ readOf m r = ⟨kind, name, 0, false, 0⟩ := by
        intro m hm hk1 m37 m38
        refine ⟨m, name, by rw [hm]; rfl, hm, List.ne_nil_of_length_pos h1, by rw [hnum, decide_eq_false k7], ?_, ?_⟩
        · unfold tailR
          rw [if_neg k0, if_neg k7, if_neg k9]
        · unfold readOf numIt nameIt
          rw [if_neg m37, if_neg m38, if_neg n1, if_neg n2, hk1, if_neg k0]
      have hcase : kind = 1 ∨ kind = 2 ∨ kind = 3 ∨ kind = 4 ∨ kind = 5 ∨ kind = 6 := by omega
      rcases hcase with rfl | rfl | rfl | rfl | rfl | rfl
      · exact key 126 rfl rfl (by decide) (by decide)
      · exact key 58 rfl rfl (by decide) (by decide)
      · exact key 61 rfl rfl (by decide) (by decide)
      · exact key 34 rfl rfl (by decide) (by decide)
      · exact key 94 rfl rfl (by decide) (by decide)
      · exact key 95 rfl rfl (by decide) (by decide)
    · rw [if_neg hc] at hok; simp at hok
theorem readR_text (it : It) (hr : inR it) (hok : 0 < (cellsOf it).length) : readR (itemText it) = (it, true) := by
  obtain ⟨m, r, e, _, _, _, _, h⟩ := text_shape it hr hok
  have hi : readItem (itemText it) = it := by rw [e]; exact h
  unfold readR
  rw [hi]
  exact if_pos ⟨by rw [e]; simp, rfl⟩
theorem ok_of_text {it : It} {l : List UInt8} (h : itemText it = l) (hl : l ≠ []) : 0 < (cellsOf it).length := by
  by_cases hok : 0 < (cellsOf it).length
  · exact hok
  · unfold itemText at h
    rw [if_neg hok] at h
    exact absurd h.symm hl
theorem readItem_inR (l : List UInt8) : inR (readItem l) := by
  have z : inR (rawIt 0) := ⟨z32, zu32⟩
  cases l with
  | nil => exact z
  | cons c r =>
    show inR (readOf c r)
    unfold readOf
    split
    · exact ⟨z32, hexR_range r⟩
    · split
      · exact ⟨w32_range _, zu32⟩
      · unfold numIt
        split
        · exact ⟨w32_range _, zu32⟩
        · split
          · exact ⟨w32_range _, zu32⟩
          · unfold nameIt
            split
            · exact z
            · exact ⟨z32, zu32⟩
theorem tailR_inR (k : Int) (s : List UInt8) : inR (tailR k s).1 := by
  have z : inR (rawIt 0) := ⟨z32, zu32⟩
  unfold tailR
  split
  · exact ⟨z32, hexR_range s⟩
  · split
    · split
      · exact ⟨w32_range _, zu32⟩
      · exact ⟨dec32_range _, zu32⟩
    · split
      · split
        · exact ⟨dec32_range _, zu32⟩
        · exact z
      · exact ⟨z32, zu32⟩
def hitR (k : Int) (l : List UInt8) : Prop := 2 ≤ l.length ∧ l.take 1 = markL k ∧ numB (l.drop 1) = decide (k = 7 ∨ k = 8) ∧ (tailR k (l.drop 1)).2 = true ∧ itemText (tailR k (l.drop 1)).1 = l
open Classical in
noncomputable def specF : Nat → Int → List UInt8 → It × Bool
  | 0, _, _ => (rawIt 0, false)
  | d + 1, k, l => if hitR k l then ((tailR k (l.drop 1)).1, true) else specF d (k + 1) l
theorem specF_eq (l : List UInt8) (d : Nat) : ∀ k : Int, k + d = 10 → ((readR l).2 = true → k ≤ (readR l).1.kind) → specF d k l = readR l := by
  have hfalse : ¬ (readR l).2 = true → readR l = (rawIt 0, false) := by
    intro h
    unfold readR at h ⊢
    split
    · rename_i hc; rw [if_pos hc] at h; exact absurd rfl h
    · rfl
  have htrue : (readR l).2 = true → itemText (readR l).1 = l ∧ inR (readR l).1 ∧ 0 < (cellsOf (readR l).1).length := by
    intro h
    unfold readR at h ⊢
    by_cases hc : l ≠ [] ∧ itemText (readItem l) = l
    · rw [if_pos hc]
      exact ⟨hc.2, readItem_inR l, ok_of_text hc.2 hc.1⟩
    · rw [if_neg hc] at h; exact absurd h (by simp)
  induction d with
  | zero =>
    intro k hk hle
    by_cases h : (readR l).2 = true
    · have := (kind_of_ok _ (htrue h).2.2).2
      have := hle h
      omega
    · rw [hfalse h]; rfl
  | succ d ih =>
    intro k hk hle
    simp only [specF]
    by_cases hh : hitR k l
    · rw [if_pos hh]
      obtain ⟨h1, _, _, _, h5⟩ := hh
      have hl : l ≠ [] := by intro e; rw [e] at h1; simp at h1
      have e := readR_text _ (tailR_inR k (l.drop 1)) (ok_of_text h5 hl)
      rw [h5] at e
      exact e.symm
    · rw [if_neg hh]
      refine ih (k + 1) (by omega) (fun h => ?_)
      obtain ⟨e, hr, hok⟩ := htrue h
      have := hle h
      by_cases hk2 : (readR l).1.kind = k
      · exfalso
        apply hh
        obtain ⟨m, r, e1, e2, e3, e4, e5, _⟩ := text_shape _ hr hok
        rw [hk2] at e2 e4 e5
        have el : l = m :: r := e.symm.trans e1
        have hd : l.drop 1 = r := by rw [el]; rfl
        unfold hitR
        rw [hd, e5]
        refine ⟨?_, by rw [el, e2]; rfl, e4, rfl, e⟩
        have := List.length_pos_iff.2 e3
        rw [el, List.length_cons]; omega
      · omega
theorem specF_all (l : List UInt8) : specF 10 0 l = readR l := by
  refine specF_eq l 10 0 (by decide) (fun h => ?_)
  unfold readR at h ⊢
  by_cases hc : l ≠ [] ∧ itemText (readItem l) = l
  · rw [if_pos hc]
    exact (kind_of_ok _ (ok_of_text hc.2 hc.1)).1
  · rw [if_neg hc] at h; exact absurd h (by simp)
theorem bt_toB {l : List UInt8} {i : Nat} (h : i < l.length) : bt (toB l) (i : Int) = ((l[i]).toNat : Int) := Tools.bt_at (s := toB l) (by rw [toB_size]; exact h)
theorem cut0 (l : List UInt8) (n : Nat) : (toB l).extract 0 n = toB (l.take n) := by rw [extract_eq, toB_data, List.drop_zero]
theorem cutF (l : List UInt8) (n : Nat) : (toB l).extract n (toB l).size = toB (l.drop n) := by rw [extract_eq, toB_data, toB_size, List.take_of_length_le (Nat.le_refl _)]
theorem toB_list (l : List UInt8) : (toB l).toList = l := by rw [ba_toList, toB_data]
def itup (it : It) : Int × ByteArray × Int × Bool × Int := (it.kind, toB it.name, it.n, it.hex, it.raw)
def rtup (x : It × Bool) : Int × ByteArray × Int × Bool × Int × Bool := (x.1.kind, toB x.1.name, x.1.n, x.1.hex, x.1.raw, x.2)
theorem cutN_take (l : List UInt8) : l.take (cutN l).length = cutN l := by
  unfold cutN
  induction l with
  | nil => rfl
  | cons b l ih =>
    by_cases h : b = 35
    · rw [List.takeWhile_cons_of_neg (by simpa using h)]; rfl
    · rw [List.takeWhile_cons_of_pos (by simpa using h), List.length_cons, List.take_succ_cons, ih]
theorem cutN_le (l : List UInt8) : (cutN l).length ≤ l.length := by
  have := congrArg List.length (cutN_take l)
  rw [List.length_take] at this
  omega
theorem cutD_le (l : List UInt8) : (cutD l).length ≤ l.length := by unfold cutD; rw [List.length_drop]; omega
theorem cutN_none {l : List UInt8} (h : 35 ∉ l) : cutN l = l := by
  unfold cutN
  induction l with
  | nil => rfl
  | cons b l ih =>
    simp only [List.mem_cons, not_or] at h
    rw [List.takeWhile_cons_of_pos (by simpa using fun e : b = 35 => h.1 e.symm), ih h.2]
theorem cutD_none {l : List UInt8} (h : 35 ∉ l) : cutD l = [] := by unfold cutD; rw [cutN_none h, List.drop_of_length_le (by omega)]
theorem index35 (l : List UInt8) : Lib.indexByte l 35 = if 35 ∈ l then ((cutN l).length : Int) else -1 := by
  induction l with
  | nil => rfl
  | cons b l ih =>
    unfold Lib.indexByte
    by_cases h : b = 35
    · subst h
      rw [if_pos (by decide), if_pos (by simp)]
      unfold cutN
      rw [List.takeWhile_cons_of_neg (by simp)]; rfl
    · rw [if_neg (by simpa using h), ih]
      by_cases hm : 35 ∈ l
      · rw [if_pos hm, if_neg (by simp), if_pos (List.mem_cons_of_mem _ hm)]
        unfold cutN
        rw [List.takeWhile_cons_of_pos (by simpa using h), List.length_cons]; omega
      · rw [if_neg hm, if_pos (by decide), if_neg (by simp only [List.mem_cons, not_or]; exact ⟨fun e => h e.symm, hm⟩)]
theorem cutN_lt {l : List UInt8} (h : 35 ∈ l) : ∃ hh : (cutN l).length < l.length, l[(cutN l).length] = 35 := by
  induction l with
  | nil => simp at h
  | cons b l ih =>
    by_cases hb : b = 35
    · subst hb
      have e : cutN (35 :: l) = [] := by unfold cutN; rw [List.takeWhile_cons_of_neg (by simp)]
      rw [e]
      exact ⟨by simp, rfl⟩
    · have e : cutN (b :: l) = b :: cutN l := by unfold cutN; rw [List.takeWhile_cons_of_pos (by simpa using hb)]
      rw [e]
      obtain ⟨h1, h2⟩ := ih (by simpa [show ¬ 35 = b from fun e => hb e.symm] using h)
      exact ⟨by simpa using h1, by simpa using h2⟩
theorem cutN_no35 {l : List UInt8} {i : Nat} (h : i < (cutN l).length) (hi : i < l.length) : l[i] ≠ 35 := by
  induction l generalizing i with
  | nil => simp at hi
  | cons b l ih =>
    by_cases hb : b = 35
    · have e : cutN (b :: l) = [] := by unfold cutN; rw [List.takeWhile_cons_of_neg (by simpa using hb)]
      rw [e] at h; simp at h
    · have e : cutN (b :: l) = b :: cutN l := by unfold cutN; rw [List.takeWhile_cons_of_pos (by simpa using hb)]
      rw [e] at h
      cases i with
      | zero => exact hb
      | succ i => exact ih (by simpa using h) (by simpa using hi)

/-! ### textLen -/
theorem itemText_len (it : It) (hn : -2147483648 ≤ it.n ∧ it.n ≤ 2147483647) (hr : 0 ≤ it.raw ∧ it.raw ≤ 4294967295) : (itemText it).length ≤ it.name.length + 30 := by
  have h1 := itoa_len32 hn
  have h2 := hexL_len32 (u := it.raw.toNat) (by omega)
  have h3 := hexL_len32 (u := (it.n % 4294967296).toNat) (by omega)
  have hnum : (numL it.n it.hex).length ≤ 22 := by
    unfold numL
    split <;> (rw [List.length_cons]; omega)
  have m1 := markL_len it.kind
  have m2 := markL_len 9
  have m3 := markL_len 0
  unfold itemText
  split
  · split
    · rw [List.length_append]; omega
    · split
      · rw [List.length_append, List.length_append, List.length_cons]; omega
      · split
        · rw [List.length_append]; omega
        · rw [List.length_append]; omega
  · exact Nat.zero_le _

/-! ### export -/
def sepL (fst : Bool) (it : It) : List UInt8 := if fst = true then [] else if it.kind = 2 then [10] else [32]
def exportF : List UInt8 → Bool → List It → List UInt8
  | acc, _, [] => acc
  | acc, fst, it :: its => exportF ((acc ++ sepL fst it) ++ itemText it) false its
/-- The text of cells. -/
def exportT (cells : List Int) : List UInt8 := if parse cells = [] then [] else exportF [] true (parse cells) ++ [10]
theorem sepL_len (fst : Bool) (it : It) : (sepL fst it).length ≤ 1 := by
  unfold sepL
  split
  · exact Nat.zero_le _
  · split <;> exact Nat.le_refl _
def smallIt (it : It) : Prop := (-2147483648 ≤ it.n ∧ it.n ≤ 2147483647) ∧ it.name.length ≤ 1048576 ∧ (0 ≤ it.raw ∧ it.raw ≤ 4294967295)
theorem exportF_len (its : List It) : ∀ (acc : List UInt8) (fst : Bool), (∀ it ∈ its, smallIt it) → acc.length ≤ (exportF acc fst its).length ∧ (exportF acc fst its).length ≤ acc.length + its.length * 1048700 := by
  induction its with
  | nil => intro acc fst _; exact ⟨Nat.le_refl _, by simp [exportF]⟩
  | cons it its ih =>
    intro acc fst hs
    obtain ⟨hn, hm, hr⟩ := hs it (by simp)
    have h1 := itemText_len it hn hr
    have h2 := sepL_len fst it
    have h3 := ih ((acc ++ sepL fst it) ++ itemText it) false (fun x hx => hs x (List.mem_cons_of_mem _ hx))
    rw [List.length_append, List.length_append] at h3
    rw [List.length_cons, exportF]
    omega
theorem exportF_ne {it : It} {its : List It} (fst : Bool) (acc : List UInt8) (hs : ∀ x ∈ it :: its, smallIt x) (hok : itemText it ≠ []) : exportF acc fst (it :: its) ≠ [] := by
  have h := (exportF_len its ((acc ++ sepL fst it) ++ itemText it) false (fun x hx => hs x (List.mem_cons_of_mem _ hx))).1
  rw [List.length_append] at h
  have := List.length_pos_iff.2 hok
  intro e
  rw [exportF] at e
  rw [e, List.length_nil] at h
  omega
theorem text_ne {it : It} (hr : inR it) (hok : cellsOf it ≠ []) : itemText it ≠ [] := by
  obtain ⟨m, r, e, _⟩ := text_shape it hr (List.length_pos_iff.2 hok)
  rw [e]; simp
theorem parse_ok (l : List Int) (hr : ∀ x ∈ l, 0 ≤ x ∧ x ≤ 4294967295) : ∀ it ∈ parse l, cellsOf it ≠ [] := by
  intro it hit
  unfold parse at hit
  split at hit
  · simp at hit
  · obtain ⟨k, hk⟩ := trimR_split (parseF l.length l)
    have hm : it ∈ parseF l.length l := by rw [hk]; exact List.mem_append_left _ hit
    exact ((parseF_cells l.length l (Nat.le_refl _) hr).2 it hm).1

/-! ### impl_Export -/
theorem impl_Export_l (its : List It) : ∀ (acc : List UInt8) (fst : Bool), (∀ it ∈ its, smallIt it) → acc.length + its.length * 1048700 ≤ 1000000000 → Ev (fun k => impl_Export.l k acc fst (its.map toS)) (exportF acc fst its) := by
  induction its with
  | nil => intro acc fst _ _; exact ev_ret rfl
  | cons it its ih =>
    intro acc fst hs hl
    obtain ⟨hn, hm, hr⟩ := hs it (by simp)
    have h1 := itemText_len it hn hr
    have h2 := sepL_len fst it
    rw [List.length_cons] at hl
    rw [List.map_cons]
    simp only [impl_Export.l, exportF]
    refine ev_bind (impl_ItemText_ev it hn hr hm) (ev_pos (by rw [toB_size]; omega) ?_)
    rw [toB_data]
    refine ih _ false (fun x hx => hs x (List.mem_cons_of_mem _ hx)) ?_
    show ((acc ++ sepL fst it) ++ itemText it).length + _ ≤ _
    rw [List.length_append, List.length_append]
    omega
theorem impl_Export_ev (l : List Int) (hl : l.length ≤ 70368744177664) (hr : ∀ x ∈ l, 0 ≤ x ∧ x ≤ 4294967295) : Ev (fun k => impl_Export.f k l) (toB (exportT l)) := by
  have hs : ∀ it ∈ parse l, smallIt it := parse_small l hr
  have hc := parse_length l hr
  have hlen := (exportF_len (parse l) [] true hs).2
  refine ev_bind (impl_ParseCells_ev l hl hr) (ev_bind (impl_Export_l (parse l) [] true hs (by simp only [List.length_nil]; omega)) (ev_pos (by rw [List.length_nil] at hlen; omega) (ev_ret ?_)))
  show toB _ = toB (exportT l)
  congr 1
  unfold exportT
  by_cases h0 : parse l = []
  · rw [if_pos h0, h0]; rfl
  · obtain ⟨it, its, e⟩ := List.exists_cons_of_ne_nil h0
    have hm : it ∈ parse l := by rw [e]; simp
    have ht := text_ne (it := it) ⟨(hs it hm).1, (hs it hm).2.2⟩ (parse_ok l hr it hm)
    rw [e] at hs ⊢
    rw [if_neg (exportF_ne true [] hs ht), if_neg (by simp)]

/-! ### impl_isSpace -/
theorem impl_isSpace_eq (b : UInt8) : impl_isSpace.f (b.toNat : Int) = some (blankB b) := by
  unfold impl_isSpace.f
  have hb := blank_iff b
  by_cases h1 : (b.toNat : Int) = 32
  · rw [if_pos h1, hb.2 (.inl h1)]
  rw [if_neg h1]
  by_cases h2 : (b.toNat : Int) = 10
  · rw [if_pos h2, hb.2 (.inr (.inr h2))]
  rw [if_neg h2]
  by_cases h3 : (b.toNat : Int) = 9
  · rw [hb.2 (.inr (.inl h3)), h3]; rfl
  · have : blankB b = false := by
      cases hc : blankB b with
      | false => rfl
      | true => have := hb.1 hc; omega
    rw [this]; simp [h3]

/-! ### impl_spots -/
theorem impl_spots_loops (s : ByteArray) (hs : s.size ≤ 1048576) (d : Nat) : ∀ i : Nat, i + d = s.size →
    (∀ ws : List S57, ws.length + d ≤ 1048577 → Ev (fun k => impl_spots.l0 k s ws (i : Int)) (ws ++ (spotsC (s.data.toList.drop i) none i).map (fun c => (⟨toB c.1, (c.2 : Int)⟩ : S57)))) ∧
    (∀ (ws : List S57) (a : Nat), a ≤ i → ws.length + d ≤ 1048576 → Ev (fun k => impl_spots.l1 k s ws (i : Int) (a : Int)) (ws ++ (spotsC (s.data.toList.drop i) (some ((s.data.toList.take i).drop a, a)) i).map (fun c => (⟨toB c.1, (c.2 : Int)⟩ : S57)))) := by
  induction d with
  | zero =>
    intro i hi
    have hd : s.data.toList.drop i = [] := List.drop_of_length_le (by rw [← size_eq]; omega)
    have h0 : ∀ ws : List S57, Ev (fun k => impl_spots.l0 k s ws (i : Int)) (ws ++ (spotsC (s.data.toList.drop i) none i).map (fun c => (⟨toB c.1, (c.2 : Int)⟩ : S57))) := by
      intro ws
      refine Ev.step (fun k => by rw [impl_spots.l0]) ?_
      refine ev_neg (by omega) (ev_ret ?_)
      rw [hd]; simp [spotsC]
    refine ⟨fun ws _ => h0 ws, fun ws a ha hw => ?_⟩
    refine Ev.step (fun k => by rw [impl_spots.l1]) ?_
    refine ev_neg (by omega) (ev_pos (by omega) (ev_pos (by omega) (ev_pos (by omega) (ev_pos (by omega) ?_))))
    refine ev_to (h0 _) ?_
    rw [hd]; simp [spotsC, extract_eq]
  | succ d ih =>
    intro i hi
    have hlt : i < s.size := by omega
    have hn : wrap64 ((i : Int) + 1) = ((i + 1 : Nat) : Int) := by rw [w64 (by omega) (by omega)]; omega
    obtain ⟨ih0, ih1⟩ := ih (i + 1) (by omega)
    cases hb : blankB s[i] with
    | true =>
      have h0 : ∀ ws : List S57, ws.length + (d + 1) ≤ 1048577 → Ev (fun k => impl_spots.l0 k s ws (i : Int)) (ws ++ (spotsC (s.data.toList.drop i) none i).map (fun c => (⟨toB c.1, (c.2 : Int)⟩ : S57))) := by
        intro ws hw
        refine Ev.step (fun k => by rw [impl_spots.l0]) ?_
        refine ev_pos (by omega) (ev_pos (by omega) (ev_bind (ev_eq (by rw [bt_at hlt, impl_isSpace_eq, hb])) (ev_pos rfl ?_)))
        rw [hn]
        refine ev_to (ih0 ws (by omega)) ?_
        rw [drop_cons hlt]; simp [spotsC, hb]
      refine ⟨h0, fun ws a ha hw => ?_⟩
      refine Ev.step (fun k => by rw [impl_spots.l1]) ?_
      refine ev_pos (by omega) (ev_pos (by omega) (ev_bind (ev_eq (by rw [bt_at hlt, impl_isSpace_eq, hb])) (ev_pos rfl (ev_pos (by omega) (ev_pos (by omega) (ev_pos (by omega) (ev_pos (by omega) ?_)))))))
      refine ev_to (h0 _ (by simp; omega)) ?_
      rw [drop_cons hlt]; simp [spotsC, hb, extract_eq]
    | false =>
      have h1 : ∀ (ws : List S57) (a : Nat), a ≤ i → ws.length + (d + 1) ≤ 1048577 → Ev (fun k => impl_spots.l1 k s ws (i : Int) (a : Int)) (ws ++ (spotsC (s.data.toList.drop i) (some ((s.data.toList.take i).drop a, a)) i).map (fun c => (⟨toB c.1, (c.2 : Int)⟩ : S57))) := by
        intro ws a ha hw
        refine Ev.step (fun k => by rw [impl_spots.l1]) ?_
        refine ev_pos (by omega) (ev_pos (by omega) (ev_bind (ev_eq (by rw [bt_at hlt, impl_isSpace_eq, hb])) (ev_neg (by simp) ?_)))
        rw [hn]
        refine ev_to (ih1 ws a (by omega) (by omega)) ?_
        rw [drop_cons hlt, cut_snoc hlt ha]; simp [spotsC, hb]
      refine ⟨fun ws hw => ?_, fun ws a ha hw => h1 ws a ha (by omega)⟩
      refine Ev.step (fun k => by rw [impl_spots.l0]) ?_
      refine ev_pos (by omega) (ev_pos (by omega) (ev_bind (ev_eq (by rw [bt_at hlt, impl_isSpace_eq, hb])) (ev_neg (by simp) ?_)))
      refine ev_to (h1 ws i (by omega) (by omega)) ?_
      rw [drop_cons hlt]; simp [spotsC, hb]
theorem impl_spots_ev (s : ByteArray) (hs : s.size ≤ 1048576) : Ev (fun k => impl_spots.f k s) ((spotsOf s.data.toList).map (fun c => (⟨toB c.1, (c.2 : Int)⟩ : S57))) :=
  ev_to (((impl_spots_loops s hs s.size) 0 (by omega)).1 [] (by simp; omega)) (by simp [spotsOf])

/-! ### impl_ReadHex -/
theorem hexV_dig (d : Nat) (h : d < 16) : ParseHex.hexV (Hex.hexDig d) = some d := by
  match d, h with
  | 0, _ => rfl
  | 1, _ => rfl
  | 2, _ => rfl
  | 3, _ => rfl
  | 4, _ => rfl
  | 5, _ => rfl
  | 6, _ => rfl
  | 7, _ => rfl
  | 8, _ => rfl
  | 9, _ => rfl
  | 10, _ => rfl
  | 11, _ => rfl
  | 12, _ => rfl
  | 13, _ => rfl
  | 14, _ => rfl
  | 15, _ => rfl
  | n + 16, h => omega
theorem phex_snoc (b : UInt8) (l : List UInt8) : ∀ acc, ParseHex.phex acc (l ++ [b]) = (ParseHex.phex acc l).bind fun x => ParseHex.phex x [b] := by
  induction l with
  | nil => intro acc; rfl
  | cons c l ih =>
    intro acc
    simp only [List.cons_append, ParseHex.phex]
    cases ParseHex.hexV c with
    | none => rfl
    | some d =>
      simp only []
      split
      · rfl
      · exact ih _
theorem phex_hexL (u : Nat) (hu : u < 4294967296) : ParseHex.phex 0 (Hex.hexL u) = some u := by
  induction u using Nat.strongRecOn with
  | _ u ih =>
    by_cases h : u < 16
    · rw [Hex.hexL_small h]
      simp only [ParseHex.phex, hexV_dig u h]
      rw [if_neg (by omega)]
      congr 1; omega
    · rw [Hex.hexL_step h, phex_snoc, ih (u / 16) (by omega) (by omega)]
      simp only [Option.bind_some, ParseHex.phex, hexV_dig _ (Nat.mod_lt u (by decide : 0 < 16))]
      rw [if_neg (by omega)]
      congr 1; omega
theorem impl_ReadHex_eq (l : List UInt8) (hl : l.length ≤ 281474976710656) : impl_ReadHex.f (toB l) = some (hexR l) := by
  unfold impl_ReadHex.f
  rw [toB_size, if_pos hl, toB_data]
  congr 1
  unfold ParseHex.v
  by_cases hx : isHex l
  · obtain ⟨u, hu, rfl⟩ := hx
    have hne : Hex.hexL u ≠ [] := by intro e; have := (hexL_len 7 u hu).2; rw [e] at this; simp at this
    rw [show ParseHex.rdH (Hex.hexL u) = some u by unfold ParseHex.rdH; rw [if_neg hne, phex_hexL u hu], hexR_of hu]
    exact if_pos rfl
  · rw [hexR_no hx]
    split
    · rename_i u h
      exact if_neg (fun e => hx ⟨u, ParseHex.rdH_le h, e⟩)
    · rfl

/-! ### strings_Cut -/
theorem strings_Cut_eq (l : List UInt8) (hl : l.length ≤ 281474976710656) : ∃ b, strings_Cut.f (toB l) ⟨#[35]⟩ = some (toB (cutN l), toB (cutD l), b) := by
  unfold strings_Cut.f stringslite_Cut.f
  rw [show stringslite_Index.f (toB l) ⟨#[35]⟩ = some (Lib.indexByte l 35) from rfl, index35]
  simp only [Option.bind_some]
  by_cases hm : 35 ∈ l
  · obtain ⟨h1, _⟩ := cutN_lt hm
    rw [if_pos hm, if_pos (by omega), if_pos (by omega), if_pos (by rw [toB_size]; omega), show (((⟨#[35]⟩ : ByteArray).size : Nat) : Int) = 1 from rfl, w64 (by omega) (by omega), if_pos (by omega), if_pos (by rw [toB_size]; omega)]
    refine ⟨true, ?_⟩
    simp only [Option.bind_some]
    rw [Int.toNat_natCast, cut0, show ((((cutN l).length : Nat) : Int) + 1).toNat = (cutN l).length + 1 by omega, cutF, cutN_take]
    rfl
  · rw [if_neg hm, if_neg (by decide), cutN_none hm, cutD_none hm]
    exact ⟨false, rfl⟩

/-! ### impl_ReadDec -/
theorem impl_ReadDec_eq (l : List UInt8) (hl : l.length ≤ 281474976710656) : impl_ReadDec.f (toB l) = some (decR l) := by
  unfold impl_ReadDec.f
  rw [toB_size, if_pos hl, toB_data]
  congr 1
  unfold impl_ReadDec.v
  by_cases hd : isDec l
  · obtain ⟨n, hb, en⟩ := hd
    rw [← en, atoiAll_itoa hb.1 hb.2, decR_itoa hb.1 hb.2]
    exact if_pos ⟨hb, rfl⟩
  · rw [decR_no hd]
    split
    · rename_i v _
      exact if_neg (fun h => hd ⟨v, h.1, h.2⟩)
    · rfl

/-! ### impl_small -/
theorem impl_small_eq (l : List UInt8) (hl : l.length ≤ 281474976710656) : ∃ b, impl_small.f (toB l) = some (smallR l, b) := by
  unfold impl_small.f smallR
  rw [impl_ReadDec_eq l hl]
  simp only [Option.bind_some]
  split
  · exact ⟨_, rfl⟩
  · exact ⟨_, rfl⟩

/-! ### strings_CutPrefix -/
theorem strings_CutPrefix_eq (l : List UInt8) (c : UInt8) : strings_CutPrefix.f (toB l) ⟨#[c]⟩ = some (toB (if l.take 1 = [c] then l.drop 1 else l), decide (l.take 1 = [c])) := by
  have e1 : (((⟨#[c]⟩ : ByteArray).size : Nat) : Int) = 1 := rfl
  unfold strings_CutPrefix.f stringslite_CutPrefix.f stringslite_HasPrefix.f
  rw [e1, toB_size]
  cases l with
  | nil => rfl
  | cons b r =>
    have h1 : ((b :: r).length : Int) ≥ 1 := by rw [List.length_cons]; omega
    have hs : (⟨#[c]⟩ : ByteArray).toList = [c] := toB_list [c]
    rw [if_pos h1, if_pos (by decide), if_pos h1, show ((1 : Int)).toNat = 1 from rfl, cut0, toB_list, hs]
    simp only [Option.bind_some]
    by_cases h : (b :: r).take 1 = [c]
    · rw [if_pos (beq_iff_eq.2 h), if_pos (by decide), if_pos h1, if_pos h, decide_eq_true h, show (b :: r).length = (toB (b :: r)).size from (toB_size _).symm, cutF]; rfl
    · rw [if_neg (by simpa using h), if_neg h, decide_eq_false h]; rfl

/-! ### impl_readItem -/
theorem nameK_loop (c : UInt8) (r : List UInt8) : Ev (fun k => impl_readItem.l0 k (toB [c]) (toB r) 1) (itup (nameIt c r)) := by
  have one : ∀ (x : Int) (m : UInt8) (R : Int × ByteArray × Int × Bool × Int), 1 ≤ x ∧ x ≤ 6 → markL x = [m] → (c = m → R = (x, toB r, 0, false, 0)) → (¬ c = m → Ev (fun k => impl_readItem.l0 k (toB [c]) (toB r) (x + 1)) R) → Ev (fun k => impl_readItem.l0 k (toB [c]) (toB r) x) R := by
    intro x m R hx hm h1 h2
    refine Ev.step (fun k => by rw [impl_readItem.l0]) (ev_pos hx.2 ?_)
    rw [impl_mark_eq x hx, hm]
    simp only [Option.bind_some]
    refine ev_ite (fun h => ev_ret ?_) (fun h => ?_)
    · rw [toB_list, toB_list] at h
      exact (h1 (by simpa using h.symm)).symm
    · rw [w64 (by omega) (by omega)]
      refine h2 (fun e => h ?_)
      rw [e]
  have last : ∀ R, (R = (0, (⟨#[]⟩ : ByteArray), 0, false, 0)) → Ev (fun k => impl_readItem.l0 k (toB [c]) (toB r) 7) R := by
    intro R hR
    refine Ev.step (fun k => by rw [impl_readItem.l0]) (ev_neg (by decide) (ev_ret hR.symm))
  unfold nameIt nameK
  refine one 1 126 _ (by decide) rfl (fun e => by subst e; rfl) (fun n1 => ?_)
  rw [if_neg n1]
  refine one 2 58 _ (by decide) rfl (fun e => by subst e; rfl) (fun n2 => ?_)
  rw [if_neg n2]
  refine one 3 61 _ (by decide) rfl (fun e => by subst e; rfl) (fun n3 => ?_)
  rw [if_neg n3]
  refine one 4 34 _ (by decide) rfl (fun e => by subst e; rfl) (fun n4 => ?_)
  rw [if_neg n4]
  refine one 5 94 _ (by decide) rfl (fun e => by subst e; rfl) (fun n5 => ?_)
  rw [if_neg n5]
  refine one 6 95 _ (by decide) rfl (fun e => by subst e; rfl) (fun n6 => ?_)
  rw [if_neg n6, if_pos rfl]
  exact last _ rfl
theorem numIt_ev (K : Int) (c : UInt8) (r : List UInt8) (hl : r.length ≤ 281474976710656) : Ev (fun k => impl_readItem.j0 k (toB [c]) (toB r) K (⟨#[]⟩ : ByteArray) 0 false 0) (itup (numIt K c r)) := by
  have hd : (r.drop 1).length ≤ 281474976710656 := by rw [List.length_drop]; omega
  refine Ev.step (fun k => by rw [impl_readItem.j0]) ?_
  rw [strings_CutPrefix_eq]
  simp only [Option.bind_some]
  unfold numIt
  refine ev_ite (fun h => ?_) (fun h => ?_)
  · have h1 := of_decide_eq_true h
    rw [if_pos h1, if_pos h1]
    obtain ⟨b, eb⟩ := impl_small_eq (r.drop 1) hd
    rw [eb]
    exact ev_ret rfl
  · have h1 : ¬ r.take 1 = [35] := by simpa using h
    rw [if_neg h1, strings_CutPrefix_eq]
    simp only [Option.bind_some]
    refine ev_ite (fun h => ?_) (fun h => ?_)
    · have h2 := of_decide_eq_true h
      rw [if_pos h2, if_pos h2, impl_ReadHex_eq _ hd]
      exact ev_ret rfl
    · have h2 : ¬ r.take 1 = [36] := by simpa using h
      rw [if_neg h2]
      exact nameK_loop c r
theorem impl_readItem_ev (c : UInt8) (r : List UInt8) (hl : r.length ≤ 281474976710656) : Ev (fun k => impl_readItem.f k (toB (c :: r))) (itup (readOf c r)) := by
  have h1 : ((toB (c :: r)).size : Int) ≥ 1 := by rw [toB_size, List.length_cons]; omega
  have e0 : (toB (c :: r)).extract 0 1 = toB [c] := cut0 _ 1
  have eF : (toB (c :: r)).extract 1 (toB (c :: r)).size = toB r := cutF _ 1
  refine ev_pos (by decide) (ev_pos h1 ?_)
  rw [e0, eF, toB_list]
  unfold readOf
  have c37 : ([c] = ([37] : List UInt8)) ↔ c = 37 := by simp
  have c38 : ([c] = ([38] : List UInt8)) ↔ c = 38 := by simp
  have c61 : ([c] = ([61] : List UInt8)) ↔ c = 61 := by simp
  refine ev_ite (fun h => ?_) (fun h => ?_)
  · rw [if_pos (c37.1 h), impl_ReadHex_eq r hl]
    exact ev_ret rfl
  rw [if_neg (fun e => h (c37.2 e))]
  refine ev_ite (fun h => ?_) (fun h => ?_)
  · rw [if_pos (c38.1 h)]
    obtain ⟨b, eb⟩ := strings_Cut_eq r hl
    have := cutD_le r
    obtain ⟨b2, eb2⟩ := impl_small_eq (cutD r) (by omega)
    rw [eb]
    simp only [Option.bind_some]
    rw [eb2]
    exact ev_ret rfl
  rw [if_neg (fun e => h (c38.2 e))]
  refine ev_ite (fun h => ?_) (fun h => ?_)
  · rw [if_pos (c61.1 h)]
    exact numIt_ev 8 c r hl
  · rw [if_neg (fun e => h (c61.2 e))]
    exact numIt_ev 7 c r hl
theorem readItem_name (l : List UInt8) : (readItem l).name.length ≤ l.length := by
  have h0 : (rawIt 0).name.length ≤ l.length := Nat.zero_le _
  cases l with
  | nil => exact h0
  | cons c r =>
    show (readOf c r).name.length ≤ r.length + 1
    have := cutN_le r
    unfold readOf
    split
    · exact Nat.zero_le _
    · split
      · show (cutN r).length ≤ _; omega
      · unfold numIt
        split
        · exact Nat.zero_le _
        · split
          · exact Nat.zero_le _
          · unfold nameIt
            split
            · exact Nat.zero_le _
            · show r.length ≤ _; omega

/-! ### impl_ReadItem -/
theorem impl_ReadItem_ev (l : List UInt8) (hl : l.length ≤ 1048576) : Ev (fun k => impl_ReadItem.f k (toB l)) (rtup (readR l)) := by
  unfold readR
  refine ev_ite (fun h => ev_ret ?_) (fun h => ?_)
  · rw [toB_list] at h
    rw [if_neg (fun e => e.1 h)]; rfl
  · rw [toB_list] at h
    obtain ⟨c, r, rfl⟩ := List.exists_cons_of_ne_nil h
    have hr := readItem_inR (c :: r)
    have hn := readItem_name (c :: r)
    refine ev_bind (impl_readItem_ev c r (by rw [List.length_cons] at hl; omega)) (ev_bind (impl_ItemText_ev (readItem (c :: r)) hr.1 hr.2 (by omega)) ?_)
    refine ev_ite (fun h2 => ev_ret ?_) (fun h2 => ev_ret ?_)
    · rw [toB_list, toB_list] at h2
      rw [if_pos ⟨h, h2⟩]; rfl
    · rw [toB_list, toB_list] at h2
      rw [if_neg (fun e => h2 e.2)]; rfl

/-! ### places -/
/-- Behind the last newline. -/
def fromOf (p : List UInt8) : Nat := p.length - (p.reverse.takeWhile (fun b => decide (b ≠ 10))).length
def lineOf (p : List UInt8) : Nat := p.count 10 + 1
theorem fromOf_snoc (p : List UInt8) (b : UInt8) : fromOf (p ++ [b]) = if b = 10 then p.length + 1 else fromOf p := by
  unfold fromOf
  rw [List.reverse_append, List.reverse_singleton, List.singleton_append, List.length_append, List.length_singleton]
  by_cases h : b = 10
  · rw [if_pos h, List.takeWhile_cons_of_neg (by simpa using h)]; rfl
  · rw [if_neg h, List.takeWhile_cons_of_pos (by simpa using h), List.length_cons]; omega
theorem fromOf_le (p : List UInt8) : fromOf p ≤ p.length := Nat.sub_le _ _
theorem lineOf_snoc (p : List UInt8) (b : UInt8) : lineOf (p ++ [b]) = if b = 10 then lineOf p + 1 else lineOf p := by
  unfold lineOf
  rw [List.count_append, List.count_singleton]
  by_cases h : b = 10
  · subst h; rw [if_pos rfl]; rfl
  · rw [if_neg h, if_neg (by simpa using h)]
theorem lineOf_le (p : List UInt8) : lineOf p ≤ p.length + 1 := by
  have := List.count_le_length (a := (10 : UInt8)) (l := p)
  unfold lineOf; omega
theorem take_snoc {l : List UInt8} {i : Nat} (h : i < l.length) : l.take (i + 1) = l.take i ++ [l[i]] := List.take_succ_eq_append_getElem h
def posL (l : List UInt8) (a : Nat) : Int := (lineOf (l.take a) : Int)
def posC (l : List UInt8) (a : Nat) : Int := (a : Int) - (fromOf (l.take a) : Int) + 1

/-! ### bytealg_LastIndexByteString -/
theorem lastIdx_loop (l : List UInt8) (hl : l.length ≤ 1048576) : ∀ j : Nat, j ≤ l.length → Ev (fun k => bytealg_LastIndexByteString.l0 k (toB l) 10 ((j : Int) - 1)) ((fromOf (l.take j) : Int) - 1) := by
  intro j
  induction j with
  | zero =>
    intro _
    refine Ev.step (fun k => by rw [bytealg_LastIndexByteString.l0]) ?_
    exact ev_neg (by omega) (ev_ret rfl)
  | succ j ih =>
    intro hj
    have hlt : j < l.length := by omega
    have hb := bt_toB hlt
    refine Ev.step (fun k => by rw [bytealg_LastIndexByteString.l0]) ?_
    rw [show ((j + 1 : Nat) : Int) - 1 = (j : Int) by omega, hb, take_snoc hlt, fromOf_snoc]
    refine ev_pos (by omega) (ev_pos (by omega) (ev_pos (by rw [toB_size]; omega) (ev_ite (fun h => ev_ret ?_) (fun h => ?_))))
    · rw [if_pos (UInt8.toNat_inj.1 (by show (l[j]).toNat = 10; omega)), List.length_take]; omega
    · rw [if_neg (fun e => h (by rw [e]; rfl)), w64 (by omega) (by omega)]
      exact ih (by omega)
theorem lastIdx_ev (l : List UInt8) (hl : l.length ≤ 1048576) : Ev (fun k => bytealg_LastIndexByteString.f k (toB l) 10) ((fromOf l : Int) - 1) := by
  have h := lastIdx_loop l hl l.length (Nat.le_refl _)
  rw [List.take_of_length_le (Nat.le_refl _)] at h
  have e : wrap64 (((toB l).size : Int) - 1) = (l.length : Int) - 1 := by rw [toB_size, w64 (by omega) (by omega)]
  unfold bytealg_LastIndexByteString.f
  rw [e]
  exact h

/-! ### impl_spotAt -/
theorem impl_spotAt_ev (l : List UInt8) (hl : l.length ≤ 1048576) (a : Nat) (ha : a ≤ l.length) (c : Int) : Ev (fun k => impl_spotAt.f k (toB l) (a : Int) c) (c, posL l a, posC l a) := by
  have hlen : (l.take a).length ≤ 1048576 := by rw [List.length_take]; omega
  have hf := fromOf_le (l.take a)
  have hc := List.count_le_length (a := (10 : UInt8)) (l := l.take a)
  have e1 : strings_Count.f (toB (l.take a)) ⟨#[10]⟩ = some (((l.take a).count 10 : Nat) : Int) := rfl
  have e2 : ∀ k, strings_LastIndex.f k (toB (l.take a)) ⟨#[10]⟩ = bytealg_LastIndexByteString.f k (toB (l.take a)) 10 := fun _ => rfl
  refine ev_pos (by omega) (ev_pos (by rw [toB_size]; omega) ?_)
  rw [Int.toNat_natCast, cut0, e1]
  simp only [Option.bind_some, e2]
  refine ev_bind (lastIdx_ev _ hlen) (ev_ret ?_)
  rw [w64 (by omega) (by omega), w64 (by omega) (by omega)]
  unfold posL posC lineOf
  rw [show (((l.take a).count 10 + 1 : Nat) : Int) = (((l.take a).count 10 : Nat) : Int) + 1 by omega, show (a : Int) - ((fromOf (l.take a) : Int) - 1) = (a : Int) - (fromOf (l.take a) : Int) + 1 by omega]

/-! ### itOf -/
def itOf (x : S46) : It := ⟨x.f0, x.f1.data.toList, x.f2, x.f3, x.f4⟩

/-! ### impl_Unparse -/
theorem impl_Unparse_l0 (l : List S46) (hl : l.length ≤ 1048576) (hn : ∀ x ∈ l, -2147483648 ≤ x.f2 ∧ x.f2 ≤ 2147483647) (hs : ∀ x ∈ l, x.f1.size ≤ 1048576) (d : Nat) : ∀ (i : Nat) (out : List Int), i + d = l.length → out.length ≤ 64 →
    Ev (fun k => impl_Unparse.l0 k out l (l.length : Int) (i : Int)) (unparseFrom out ((l.drop i).map itOf)) := by
  induction d with
  | zero =>
    intro i out hi ho
    refine Ev.step (fun k => by rw [impl_Unparse.l0]) ?_
    refine ev_neg (by omega) (ev_ret ?_)
    rw [List.drop_of_length_le (by omega)]; rfl
  | succ d ih =>
    intro i out hi ho
    have hlt : i < l.length := by omega
    have e : rd_T46 l (i : Int) = l[i] := by simp [rd_T46, List.getElem?_eq_getElem hlt]
    have ec := impl_CellsOf_ev (itOf l[i]) (hn _ (List.getElem_mem _)) (show l[i].f1.data.toList.length ≤ 1048576 from hs _ (List.getElem_mem _))
    have hc := cellsOf_length (itOf l[i])
    rw [show toB (itOf l[i]).name = l[i].f1 from toB_self _] at ec
    refine Ev.step (fun k => by rw [impl_Unparse.l0]) ?_
    rw [e, List.drop_eq_getElem_cons hlt, List.map_cons, unparseFrom]
    refine ev_pos (by omega) (ev_pos (by omega) (ev_pos (by omega) (ev_bind ec (ev_pos (by omega) (ev_some ?_)))))
    rw [w64 (x := (i : Int) + 1) (by omega) (by omega), show ((i : Int) + 1) = ((i + 1 : Nat) : Int) by omega, List.length_append]
    by_cases h0 : cellsOf (itOf l[i]) = []
    · rw [if_pos (Or.inl h0)]
      exact ev_pos (by rw [h0]; rfl) (ev_ret rfl)
    have h0' : ¬ ((cellsOf (itOf l[i])).length : Int) = 0 := fun h => h0 (List.length_eq_zero_iff.1 (by omega))
    by_cases h1 : out.length + (cellsOf (itOf l[i])).length > 64
    · rw [if_pos (Or.inr h1)]
      exact ev_neg h0' (ev_pos (by omega) (ev_ret rfl))
    · rw [if_neg (by rintro (h | h); exact h0 h; exact h1 h)]
      exact ev_neg h0' (ev_neg (by omega) (ih (i + 1) _ (by omega) (by rw [List.length_append]; omega)))
theorem impl_Unparse_ev (l : List S46) (hl : l.length ≤ 1048576) (hn : ∀ x ∈ l, -2147483648 ≤ x.f2 ∧ x.f2 ≤ 2147483647) (hs : ∀ x ∈ l, x.f1.size ≤ 1048576) : Ev (fun k => impl_Unparse.f k l) (unparse (l.map itOf)) :=
  impl_Unparse_l0 l hl hn hs l.length 0 [] (by omega) (by simp)

/-! ### sameItems -/
theorem itOf_toS (it : It) : itOf (toS it) = it := by
  obtain ⟨a, b, c, d, e⟩ := it
  simp [itOf, toS, toB_data]
theorem map_itOf_toS (l : List It) : (l.map toS).map itOf = l := by
  rw [List.map_map]
  exact (List.map_congr_left (g := id) fun x _ => itOf_toS x).trans (List.map_id _)
theorem ne_items (x y : S46) : ((!(x.f0 == y.f0) || (!(x.f1.toList == y.f1.toList) || (!(x.f2 == y.f2) || (!(x.f3 == y.f3) || (!(x.f4 == y.f4)))))) = true) ↔ ¬ itOf x = itOf y := by
  rw [ba_toList, ba_toList]
  simp only [Bool.or_eq_true, Bool.not_eq_true', beq_eq_false_iff_ne, ne_eq, itOf, It.mk.injEq, Classical.not_and_iff_not_or_not]
theorem rd_item (l : List S46) (i : Nat) (h : i < l.length) : rd_T46 l (i : Int) = l[i] := by simp [rd_T46, List.getElem?_eq_getElem h]
theorem dec_items {x y : S46} {l m : List S46} (h : itOf x = itOf y) : decide (l.map itOf = m.map itOf) = decide ((x :: l).map itOf = (y :: m).map itOf) := dec_cons h
theorem dec_items_ne {x y : S46} {l m : List S46} (h : ¬ itOf x = itOf y) : false = decide ((x :: l).map itOf = (y :: m).map itOf) := dec_cons_ne h

/-! ### impl_Item -/
theorem impl_Item_l0 (a b : List S46) (hl : a.length ≤ 70368744177664) (he : a.length = b.length) (d : Nat) : ∀ (i : Nat), i + d = a.length → Ev (fun k => impl_Item.l0 k a b (a.length : Int) (i : Int)) (decide ((a.drop i).map itOf = (b.drop i).map itOf)) := by
  induction d with
  | zero =>
    intro i hi
    refine Ev.step (fun k => by rw [impl_Item.l0]) ?_
    refine ev_neg (by omega) (ev_ret ?_)
    rw [List.drop_of_length_le (by omega), List.drop_of_length_le (by omega)]; rfl
  | succ d ih =>
    intro i hi
    refine Ev.step (fun k => by rw [impl_Item.l0]) ?_
    refine ev_pos (by omega) (ev_pos (by omega) (ev_pos (by omega) (ev_pos (by omega) ?_)))
    rw [rd_item a i (by omega), rd_item b i (by omega), List.drop_eq_getElem_cons (by omega : i < a.length), List.drop_eq_getElem_cons (by omega : i < b.length), w64 (by omega) (by omega), show ((i : Int) + 1) = ((i + 1 : Nat) : Int) by omega]
    refine ev_ite (fun h => ev_ret (dec_items_ne ((ne_items _ _).1 h))) (fun h => ev_to (ih (i + 1) (by omega)) (dec_items ?_))
    exact Classical.byContradiction fun g => h ((ne_items _ _).2 g)
theorem impl_Item_ev (a b : List S46) (hl : a.length ≤ 70368744177664) : Ev (fun k => impl_Item.f k a b) (decide (a.map itOf = b.map itOf)) := by
  by_cases h : a.length = b.length
  · exact ev_pos (by omega) (impl_Item_l0 a b hl h a.length 0 (Nat.zero_add _))
  · refine ev_neg (by omega) (ev_ret (decide_eq_false fun e => h ?_).symm)
    have := congrArg List.length e
    simpa using this

/-! ### impl_ListOk -/
theorem impl_ListOk_ev (l : List S46) (hl : l.length ≤ 1048576) (hn : ∀ x ∈ l, -2147483648 ≤ x.f2 ∧ x.f2 ≤ 2147483647) (hw : ∀ x ∈ l, 0 ≤ x.f4 ∧ x.f4 ≤ 4294967295) (hs : ∀ x ∈ l, x.f1.size ≤ 1048576) : Ev (fun k => impl_ListOk.f k l) (listOk (l.map itOf)) := by
  have hr := unparse_range (l.map itOf) (fun it h => by obtain ⟨x, hx, rfl⟩ := List.mem_map.1 h; exact hw x hx)
  have hlen := unparse_length (l.map itOf)
  unfold listOk
  refine ev_bind (impl_Unparse_ev l hl hn hs) ?_
  by_cases h : (unparse (l.map itOf)).2 = true
  · rw [h, Bool.true_and]
    refine ev_pos rfl (ev_bind (impl_ParseCells_ev _ (by omega) hr) ?_)
    have e := impl_Item_ev ((parse (unparse (l.map itOf)).1).map toS) l (by rw [List.length_map]; have := parse_length _ hr; omega)
    rw [map_itOf_toS] at e
    exact ev_bind e (ev_ret rfl)
  · rw [show (unparse (l.map itOf)).2 = false by simpa using h, Bool.false_and]
    exact ev_neg (by simp) (ev_ret rfl)

/-! ### import -/
def totalOf (its : List It) : Nat := (its.flatMap cellsOf).length
/-- What the words of a text come to. -/
noncomputable def impF (l : List UInt8) : List It → List (List UInt8 × Nat) → Nat → List Int × Int × Int × Int
  | its, [], last => if listOk its = true then ((unparse its).1, 0, 0, 0) else ([], 4, posL l last, posC l last)
  | its, c :: ws, last => if (readR c.1).2 = true then (if totalOf (its ++ [(readR c.1).1]) ≤ 64 then impF l (its ++ [(readR c.1).1]) ws c.2 else ([], 3, posL l c.2, posC l c.2)) else ([], 2, posL l c.2, posC l c.2)
noncomputable def importT (l : List UInt8) : List Int × Int × Int × Int := if l.length > 6000 then ([], 1, 0, 0) else impF l [] (spotsOf l) 0
def okIt (it : It) : Prop := ((-2147483648 ≤ it.n ∧ it.n ≤ 2147483647) ∧ it.name.length ≤ 1048576 ∧ (0 ≤ it.raw ∧ it.raw ≤ 4294967295)) ∧ cellsOf it ≠ []
theorem readR_ok (w : List UInt8) (hw : w.length ≤ 1048576) (h : (readR w).2 = true) : okIt (readR w).1 := by
  unfold readR at h ⊢
  by_cases hc : w ≠ [] ∧ itemText (readItem w) = w
  · rw [if_pos hc]
    have hr := readItem_inR w
    have hn := readItem_name w
    exact ⟨⟨hr.1, by show (readItem w).name.length ≤ _; omega, hr.2⟩, List.ne_nil_of_length_pos (ok_of_text hc.2 hc.1)⟩
  · rw [if_neg hc] at h; exact absurd h (by simp)
theorem readR_small (w : List UInt8) (hw : w.length ≤ 1048576) : (-2147483648 ≤ (readR w).1.n ∧ (readR w).1.n ≤ 2147483647) ∧ (readR w).1.name.length ≤ 1048576 := by
  unfold readR
  split
  · have hr := readItem_inR w
    have hn := readItem_name w
    exact ⟨hr.1, by show (readItem w).name.length ≤ _; omega⟩
  · exact ⟨z32, Nat.zero_le _⟩
theorem totalOf_snoc (its : List It) (it : It) : totalOf (its ++ [it]) = totalOf its + (cellsOf it).length := by
  unfold totalOf
  rw [List.flatMap_append, List.length_append]
  simp
theorem totalOf_len (its : List It) (h : ∀ it ∈ its, okIt it) : its.length ≤ totalOf its := by
  unfold totalOf
  induction its with
  | nil => exact Nat.le_refl _
  | cons it its ih =>
    have h1 := List.length_pos_iff.2 (h it (by simp)).2
    have h2 := ih (fun x hx => h x (List.mem_cons_of_mem _ hx))
    rw [List.flatMap_cons, List.length_append, List.length_cons]
    omega
theorem unparseFrom_no (its : List It) : ∀ out : List Int, out.length ≤ 64 → 64 < out.length + (its.flatMap cellsOf).length → (unparseFrom out its).2 = false := by
  induction its with
  | nil => intro out h1 h2; simp at h2; omega
  | cons it its ih =>
    intro out h1 h2
    rw [List.flatMap_cons, List.length_append] at h2
    unfold unparseFrom
    by_cases hc : cellsOf it = [] ∨ out.length + (cellsOf it).length > 64
    · rw [if_pos hc]
    · rw [if_neg hc]
      exact ih _ (by rw [List.length_append]; omega) (by rw [List.length_append]; omega)
theorem unparse_fits (its : List It) (h : ∀ it ∈ its, okIt it) : (unparse its).2 = decide (totalOf its ≤ 64) := by
  by_cases hc : totalOf its ≤ 64
  · rw [decide_eq_true hc]
    have := unparseFrom_all its [] (fun it hi => (h it hi).2) (by rw [List.length_nil, Nat.zero_add]; exact hc)
    unfold unparse
    rw [this]
  · rw [decide_eq_false hc]
    exact unparseFrom_no its [] (by simp) (by rw [List.length_nil, Nat.zero_add]; unfold totalOf at hc; omega)
theorem listOk_nil : listOk [] = true := by
  have : parse [] = [] := by simp [parse, parseF, trimR]
  simp [listOk, unparse, unparseFrom, this]
theorem okS (its : List It) (h : ∀ it ∈ its, okIt it) : ∀ x ∈ its.map toS, (-2147483648 ≤ x.f2 ∧ x.f2 ≤ 2147483647) ∧ x.f1.size ≤ 1048576 ∧ (0 ≤ x.f4 ∧ x.f4 ≤ 4294967295) := by
  intro x hx
  obtain ⟨it, hi, rfl⟩ := List.mem_map.1 hx
  obtain ⟨⟨h1, h2, h3⟩, _⟩ := h it hi
  exact ⟨h1, by show (toB it.name).size ≤ _; rw [toB_size]; exact h2, h3⟩
theorem snoc_ok {its : List It} {it : It} (h : ∀ x ∈ its, okIt x) (h2 : okIt it) : ∀ x ∈ its ++ [it], okIt x := by
  intro x hx
  rcases List.mem_append.1 hx with hx | hx
  · exact h x hx
  · rw [List.mem_singleton.1 hx]; exact h2

/-! ### impl_Import -/
theorem impl_Import_l0 (l : List UInt8) (hl : l.length ≤ 6000) (sp : List (List UInt8 × Nat)) (hsp : sp.length ≤ 6000) (hc : ∀ c ∈ sp, c.1.length ≤ 6000 ∧ c.2 ≤ l.length) (d : Nat) :
    ∀ (i : Nat) (its : List It) (last : Nat), i + d = sp.length → (∀ it ∈ its, okIt it) → totalOf its ≤ 64 → last ≤ l.length →
    Ev (fun k => impl_Import.l0 k (toB l) (its.map toS) (totalOf its : Int) (last : Int) (sp.map (fun c => (⟨toB c.1, (c.2 : Int)⟩ : S57))) (sp.length : Int) (i : Int)) (impF l its (sp.drop i) last) := by
  induction d with
  | zero =>
    intro i its last hi hok ht hlast
    have hil := totalOf_len its hok
    have hS := okS its hok
    have hlen : (its.map toS).length ≤ 1048576 := by rw [List.length_map]; omega
    have e1 := impl_ListOk_ev (its.map toS) hlen (fun x hx => (hS x hx).1) (fun x hx => (hS x hx).2.2) (fun x hx => (hS x hx).2.1)
    have e2 := impl_Unparse_ev (its.map toS) hlen (fun x hx => (hS x hx).1) (fun x hx => (hS x hx).2.1)
    rw [map_itOf_toS] at e1 e2
    refine Ev.step (fun k => by rw [impl_Import.l0]) ?_
    rw [List.drop_of_length_le (by omega)]
    simp only [impF]
    refine ev_neg (by omega) (ev_bind e1 (ev_ite (fun h => ?_) (fun h => ?_)))
    · rw [if_pos h]
      exact ev_bind e2 (ev_ret rfl)
    · rw [if_neg h]
      exact ev_bind (impl_spotAt_ev l (by omega) last hlast 4) (ev_ret rfl)
  | succ d ih =>
    intro i its last hi hok ht hlast
    have hlt : i < sp.length := by omega
    have e : rd_T57 (sp.map (fun c => (⟨toB c.1, (c.2 : Int)⟩ : S57))) (i : Int) = ⟨toB sp[i].1, (sp[i].2 : Int)⟩ := by simp [rd_T57, List.getElem?_eq_getElem hlt]
    obtain ⟨hw, ha⟩ := hc sp[i] (List.getElem_mem _)
    have hil := totalOf_len its hok
    have hsm := readR_small sp[i].1 (by omega)
    have hcl := cellsOf_length (readR sp[i].1).1
    refine Ev.step (fun k => by rw [impl_Import.l0]) (ev_pos (by omega) (ev_pos (by omega) (ev_pos (by rw [List.length_map]; omega) ?_)))
    rw [e, List.drop_eq_getElem_cons hlt]
    simp only [impF]
    refine ev_bind (impl_ReadItem_ev sp[i].1 (by omega)) (ev_ite (fun h => ?_) (fun h => ?_))
    · have h' : (readR sp[i].1).2 = true := h
      rw [if_pos h', totalOf_snoc]
      refine ev_bind (impl_CellsOf_ev (readR sp[i].1).1 hsm.1 hsm.2) ?_
      rw [w64 (x := (totalOf its : Int) + _) (by omega) (by omega)]
      refine ev_ite (fun h2 => ?_) (fun h2 => ?_)
      · rw [if_neg (by omega)]
        exact ev_bind (impl_spotAt_ev l (by omega) sp[i].2 ha 3) (ev_ret rfl)
      · rw [if_pos (by omega)]
        refine ev_pos (by rw [List.length_map]; omega) ?_
        have hn := ih (i + 1) (its ++ [(readR sp[i].1).1]) sp[i].2 (by omega) (snoc_ok hok (readR_ok _ (by omega) h')) (by rw [totalOf_snoc]; omega) ha
        rw [totalOf_snoc, List.map_append, List.map_singleton] at hn
        rw [w64 (x := (i : Int) + 1) (by omega) (by omega), show ((i : Int) + 1) = ((i + 1 : Nat) : Int) by omega, show (totalOf its : Int) + ((cellsOf (readR sp[i].1).1).length : Int) = ((totalOf its + (cellsOf (readR sp[i].1).1).length : Nat) : Int) by omega]
        exact hn
    · rw [if_neg (show ¬ (readR sp[i].1).2 = true from h)]
      exact ev_bind (impl_spotAt_ev l (by omega) sp[i].2 ha 2) (ev_ret rfl)
theorem spotsC_mem (l : List UInt8) : ∀ (o : Option (List UInt8 × Nat)) (i : Nat), (∀ c, o = some c → c.1.length ≤ i ∧ c.2 ≤ i) → ∀ c ∈ spotsC l o i, c.1.length ≤ i + l.length ∧ c.2 ≤ i + l.length := by
  induction l with
  | nil =>
    intro o i h c hc
    cases o with
    | none => simp [spotsC] at hc
    | some x =>
      simp only [spotsC, List.mem_singleton] at hc
      subst hc
      exact h _ rfl
  | cons b l ih =>
    intro o i h c hc
    rw [List.length_cons]
    have key : ∀ o', (∀ c, o' = some c → c.1.length ≤ i + 1 ∧ c.2 ≤ i + 1) → c ∈ spotsC l o' (i + 1) → c.1.length ≤ i + (l.length + 1) ∧ c.2 ≤ i + (l.length + 1) := by
      intro o' ho' hm
      have := ih o' (i + 1) ho' c hm
      omega
    cases o with
    | none =>
      simp only [spotsC] at hc
      split at hc
      · exact key none (fun _ e => by cases e) hc
      · exact key _ (fun c e => by cases e; exact ⟨by simp, Nat.le_succ _⟩) hc
    | some x =>
      have hx := h x rfl
      simp only [spotsC] at hc
      split at hc
      · rcases List.mem_cons.1 hc with rfl | hc
        · omega
        · exact key none (fun _ e => by cases e) hc
      · refine key (some (x.1 ++ [b], x.2)) ?_ hc
        intro c e
        cases e
        exact ⟨by simp only [List.length_append, List.length_singleton]; omega, by show x.2 ≤ i + 1; omega⟩
theorem spotsOf_mem (l : List UInt8) : ∀ c ∈ spotsOf l, c.1.length ≤ l.length ∧ c.2 ≤ l.length := by
  intro c hc
  have := spotsC_mem l none 0 (fun _ e => by cases e) c hc
  omega
theorem impl_Import_ev (l : List UInt8) (hl : l.length ≤ 1048576) : Ev (fun k => impl_Import.f k (toB l)) (importT l) := by
  unfold importT
  refine ev_ite (fun h => ?_) (fun h => ?_)
  · rw [toB_size] at h
    rw [if_pos (by omega)]
    exact ev_ret rfl
  · rw [toB_size] at h
    rw [if_neg (by omega)]
    have hsp := spotsOf_length l
    have hm := spotsOf_mem l
    have es := impl_spots_ev (toB l) (by rw [toB_size]; exact hl)
    rw [toB_data] at es
    refine ev_bind es ?_
    rw [List.length_map]
    exact impl_Import_l0 l (by omega) (spotsOf l) (by omega) (fun c hc => ⟨by have := (hm c hc).1; omega, (hm c hc).2⟩) (spotsOf l).length 0 [] 0 (by omega) (by simp) (by decide) (by omega)

/-! ### laws_sameCells -/
theorem laws_sameCells_l0 (a b : List Int) (hl : a.length ≤ 70368744177664) (he : a.length = b.length) (d : Nat) : ∀ (i : Nat), i + d = a.length → Ev (fun k => laws_sameCells.l0 k a b (i : Int)) (decide (a.drop i = b.drop i)) := by
  induction d with
  | zero =>
    intro i hi
    refine Ev.step (fun k => by rw [laws_sameCells.l0]) ?_
    refine ev_neg (by omega) (ev_ret ?_)
    rw [List.drop_of_length_le (by omega), List.drop_of_length_le (by omega)]; rfl
  | succ d ih =>
    intro i hi
    refine Ev.step (fun k => by rw [laws_sameCells.l0]) ?_
    refine ev_pos (by omega) (ev_pos (by omega) (ev_pos (by omega) ?_))
    rw [rd_nat (by omega), rd_nat (by omega), w64 (by omega) (by omega), show ((i : Int) + 1) = ((i + 1 : Nat) : Int) by omega, List.drop_eq_getElem_cons (by omega : i < a.length), List.drop_eq_getElem_cons (by omega : i < b.length)]
    refine ev_ite (fun h => ev_to (ih (i + 1) (by omega)) (dec_cons h)) (fun h => ev_ret (dec_cons_ne h))
theorem laws_sameCells_ev (a b : List Int) (hl : a.length ≤ 70368744177664) : Ev (fun k => laws_sameCells.f k a b) (decide (a = b)) := by
  by_cases h : a.length = b.length
  · exact ev_pos (by omega) (laws_sameCells_l0 a b hl h a.length 0 (Nat.zero_add _))
  · exact ev_neg (by omega) (ev_ret (decide_eq_false fun e => h (by rw [e])).symm)

/-! ### laws_padded -/
theorem laws_padded_l0 (l : List Int) (hl : l.length ≤ 1000000) (d : Nat) : ∀ (i : Nat), i + d = 64 - l.length → Ev (fun k => laws_padded.l0 k (l ++ List.replicate i 0)) (fill l) := by
  induction d with
  | zero =>
    intro i hi
    refine Ev.step (fun k => by rw [laws_padded.l0]) ?_
    refine ev_neg (by rw [List.length_append, List.length_replicate]; omega) (ev_ret ?_)
    rw [fill, show i = 64 - l.length by omega]
  | succ d ih =>
    intro i hi
    refine Ev.step (fun k => by rw [laws_padded.l0]) ?_
    refine ev_pos (by rw [List.length_append, List.length_replicate]; omega) (ev_pos (by rw [List.length_append, List.length_replicate]; omega) ?_)
    have e := ih (i + 1) (by omega)
    rw [List.replicate_succ', ← List.append_assoc] at e
    exact e
theorem laws_padded_ev (l : List Int) (hl : l.length ≤ 1000000) : Ev (fun k => laws_padded.f k l) (fill l) := by
  have e := laws_padded_l0 l hl (64 - l.length) 0 (Nat.zero_add _)
  rw [List.replicate_zero, List.append_nil] at e
  exact ev_some (ev_pos (by simp only [List.length_nil]; omega) e)

/-! ### spec_l04Kind -/
theorem spec_l04Kind_l0 (t : Int) (d : Nat) : ∀ i : Nat, i + d = 7 → 1 ≤ i → (∀ j : Nat, 1 ≤ j → j < i → tagOf (j : Int) ≠ t) → Ev (fun k => spec_l04Kind.l0 k t (i : Int)) (if kindOf t = 0 then -1 else kindOf t) := by
  induction d with
  | zero =>
    intro i hi h1 hj
    refine Ev.step (fun k => by rw [spec_l04Kind.l0]) ?_
    refine ev_neg (by omega) (ev_ret ?_)
    rw [if_pos (kindOf_none (fun j a b => hj j a (by omega)))]
  | succ d ih =>
    intro i hi h1 hj
    refine Ev.step (fun k => by rw [spec_l04Kind.l0]) ?_
    refine ev_pos (by omega) (ev_bind (ev_eq (spec_l04Tag_eq _)) (ev_ite (fun h => ev_ret ?_) (fun h => ?_)))
    · rw [← h, kindOf_tagOf i h1 (by omega), if_neg (by omega)]
    · rw [w64 (by omega) (by omega), show ((i : Int) + 1) = ((i + 1 : Nat) : Int) by omega]
      refine ih (i + 1) (by omega) (by omega) (fun j a b => ?_)
      by_cases e : j = i
      · rw [e]; exact h
      · exact hj j a (by omega)
theorem spec_l04Kind_ev (t : Int) : Ev (fun k => spec_l04Kind.f k t) (if kindOf t = 0 then -1 else kindOf t) := spec_l04Kind_l0 t 6 1 (by omega) (by omega) (fun j a b => by omega)

/-! ### spec_Decode -/
theorem spec_Decode_l0 (x n : Int) (hx : 0 ≤ x ∧ x ≤ 4294967295) (hn : 1 ≤ n ∧ n ≤ 32) (d : Nat) (hd : d ≤ 48) : Ev (fun k => spec_Decode.l0 k x n (48 - (d : Int))) (decFrom x n d) := by
  induction d with
  | zero =>
    refine Ev.step (fun k => by rw [spec_Decode.l0]) ?_
    refine ev_neg (by omega) (ev_ret ?_)
    rfl
  | succ d ih =>
    refine Ev.step (fun k => by rw [spec_Decode.l0]) ?_
    refine ev_pos (by omega) (ev_bind (ev_eq (spec_WidthOf_eq _)) ?_)
    have e : (48 : Int) - ((d + 1 : Nat) : Int) = 47 - d := by omega
    have hw := width_in (k := 47 - (d : Int)) (by omega) (by omega)
    rw [e, decFrom, w64 (by omega) (by omega), show ((47 : Int) - d + 1) = 48 - d by omega]
    by_cases h : widthOf (47 - d) ≤ n
    · refine ev_neg (by omega) (ev_pos (by rw [wu64 (by omega) (by omega)]; omega) (ev_pos (by rw [w64 (by omega) (by omega), wu64 (by omega) (by omega)]; omega) (ev_bind (ev_eq (spec_BitsOf_eq _)) ?_)))
      rw [w64 (x := bitsOf _) (by omega) (by have := hw.2.2.2; have := two_pow_le (a := (widthOf (47 - (d : Int))).toNat) (b := 7) (by omega); omega)]
      rw [spec_head x n (widthOf (47 - d)) hx hn (by omega) h]
      have hh : hit x n (47 - d) ↔ x / 2 ^ (n - widthOf (47 - d)).toNat % 2 ^ (widthOf (47 - d)).toNat = bitsOf (47 - d) := ⟨fun k => k.2, fun k => ⟨h, k⟩⟩
      by_cases h' : hit x n (47 - d)
      · rw [if_pos h']; exact ev_pos (hh.1 h') (ev_ret rfl)
      · rw [if_neg h']; exact ev_neg (fun k => h' (hh.2 k)) (ih (by omega))
    · rw [if_neg (fun k => h k.1)]
      exact ev_pos (by omega) (ih (by omega))
theorem spec_Decode_ev (x n : Int) (hx : 0 ≤ x ∧ x ≤ 4294967295) : Ev (fun k => spec_Decode.f k x n) (dcode x n) := by
  refine ev_bind (ev_eq (spec_l01In_eq _ _ _)) ?_
  unfold dcode
  by_cases h : 1 ≤ n ∧ n ≤ 32
  · rw [if_pos h]; exact ev_pos (decide_eq_true h) (spec_Decode_l0 x n hx h 48 (by omega))
  · rw [if_neg h]; exact ev_neg (by simp only [decide_eq_true_eq]; exact h) (ev_ret rfl)

/-! ### spec_UnpackOne -/
theorem spec_UnpackOne_l0 (f : Int) (hf : 0 ≤ f ∧ f < 268435456) (d : Nat) : ∀ (acc : List UInt8) (left : Int), 0 ≤ left → left ≤ 28 → left ≤ 4 * d → acc.length + d ≤ 8 →
    Ev (fun k => spec_UnpackOne.l0 k f (acc.map (fun b => (b.toNat : Int))) left) (toB (acc ++ upk f d left)) := by
  induction d with
  | zero =>
    intro acc left h0 h1 h2 h3
    refine Ev.step (fun k => by rw [spec_UnpackOne.l0]) ?_
    refine ev_neg (by omega) ?_
    refine Ev.step (fun k => by rw [spec_UnpackOne.j1]) ?_
    refine ev_neg (by simp) (ev_ret ?_)
    rw [strOf_map]; simp [upk]
  | succ d ih =>
    intro acc left h0 h1 h2 h3
    rw [upk]
    by_cases hz : left = 0
    · subst hz
      refine Ev.step (fun k => by rw [spec_UnpackOne.l0]) ?_
      refine ev_neg (by omega) ?_
      refine Ev.step (fun k => by rw [spec_UnpackOne.j1]) ?_
      refine ev_neg (by simp) (ev_ret ?_)
      rw [strOf_map, if_pos (by simp)]; simp
    · refine Ev.step (fun k => by rw [spec_UnpackOne.l0]) ?_
      refine ev_pos (by omega) (ev_pos (by rw [wu64 (by omega) (by omega)]; omega) ?_)
      have := two_pow_le (a := left.toNat) (b := 28) (by omega)
      have := two_pow_pos left.toNat
      rw [w64 (x := f) (by omega) (by omega), wu64 (x := left) (by omega) (by omega), shl1_i64 (by omega) (by omega), w64 (by omega) (by omega), and_i64 (by omega) (by omega)]
      by_cases hm : f % 2 ^ left.toNat = 0
      · rw [if_pos hm]
        refine Ev.step (fun k => by rw [spec_UnpackOne.j1]) ?_
        refine ev_neg (by simp [hm]) (ev_ret ?_)
        rw [strOf_map]; simp
      · rw [if_neg hm]
        refine Ev.step (fun k => by rw [spec_UnpackOne.j1]) ?_
        refine ev_pos (by simp [hm]) (ev_bind (spec_Decode_ev f left (by omega)) ?_)
        have hd := dcode_range f left
        by_cases hk : (dcode f left).1 < 1
        · rw [if_pos hk]
          refine ev_pos hk (ev_ret ?_)
          rw [strOf_map]; simp
        · rw [if_neg hk]
          refine ev_neg hk (ev_bind (ev_eq (spec_LetterAt_eq _)) (ev_pos (by simp; omega) ?_))
          rw [if_pos (by omega), bt_letter (by omega) (by omega), w64 (by omega) (by omega), map_snoc]
          refine ev_to (ih (acc ++ [letter (dcode f left).1]) _ (by omega) (by omega) (by omega) (by simp; omega)) ?_
          simp
theorem spec_UnpackOne_ev (f : Int) (hf : 0 ≤ f ∧ f ≤ 4294967295) : Ev (fun k => spec_UnpackOne.f k f) (toB (unpackOne f)) := by
  unfold unpackOne
  by_cases h : f ≥ 268435456
  · rw [if_pos h]; exact ev_pos (by rw [w64 (by omega) (by omega)]; exact h) (ev_ret rfl)
  · rw [if_neg h]
    refine ev_neg (by rw [w64 (by omega) (by omega)]; exact h) ?_
    exact ev_to (spec_UnpackOne_l0 f (by omega) 8 [] 28 (by omega) (by omega) (by omega) (by simp)) (by simp)

/-! ### spec_l03Same -/
theorem spec_l03Same_l0 (a b : List Int) (hl : a.length ≤ 70368744177664) (he : a.length = b.length) (d : Nat) : ∀ (i : Nat), i + d = a.length → Ev (fun k => spec_l03Same.l0 k a b (i : Int)) (decide (a.drop i = b.drop i)) := by
  induction d with
  | zero =>
    intro i hi
    refine Ev.step (fun k => by rw [spec_l03Same.l0]) ?_
    refine ev_neg (by omega) (ev_ret ?_)
    rw [List.drop_of_length_le (by omega), List.drop_of_length_le (by omega)]; simp
  | succ d ih =>
    intro i hi
    refine Ev.step (fun k => by rw [spec_l03Same.l0]) ?_
    refine ev_pos (by omega) (ev_pos (by omega) (ev_pos (by omega) ?_))
    rw [rd_nat (by omega), rd_nat (by omega), List.drop_eq_getElem_cons (by omega : i < a.length), List.drop_eq_getElem_cons (by omega : i < b.length)]
    by_cases h : a[i] = b[i]
    · refine ev_pos h ?_
      rw [w64 (by omega) (by omega), show ((i : Int) + 1) = ((i + 1 : Nat) : Int) by omega]
      exact ev_to (ih (i + 1) (by omega)) (dec_cons h)
    · exact ev_neg h (ev_ret (dec_cons_ne h))
theorem spec_l03Same_ev (a b : List Int) (hl : a.length ≤ 70368744177664) : Ev (fun k => spec_l03Same.f k a b) (decide (a = b)) := by
  by_cases h : a.length = b.length
  · exact ev_pos (by omega) (ev_to (spec_l03Same_l0 a b hl h a.length 0 (by omega)) (by simp))
  · refine ev_neg (by omega) (ev_ret ?_)
    rw [decide_eq_false]
    intro e
    exact h (by rw [e])

/-! ### spec_Unpack -/
theorem spec_Unpack_l0 (list : List Int) (hl : list.length ≤ 24) (hr : ∀ x ∈ list, 0 ≤ x ∧ x ≤ 4294967295) (d : Nat) : ∀ (i : Nat) (acc : List UInt8), i + d = list.length → acc.length ≤ 8 * i →
    Ev (fun k => spec_Unpack.l0 k list (toB acc) (i : Int)) (if okName (acc ++ unpackAll (list.drop i)) = true ∧ pack (acc ++ unpackAll (list.drop i)) = list then (toB (acc ++ unpackAll (list.drop i)), true) else (toB [], false)) := by
  induction d with
  | zero =>
    intro i acc hi ha
    rw [List.drop_of_length_le (by omega)]
    refine Ev.step (fun k => by rw [spec_Unpack.l0]) ?_
    refine ev_neg (by omega) (ev_bind (spec_NameOk_ev _) ?_)
    rw [toB_data, show acc ++ unpackAll [] = acc by simp [unpackAll]]
    by_cases h : okName acc = true
    · refine ev_pos h (ev_bind (spec_Pack_ev acc) (ev_bind (spec_l03Same_ev _ _ ?_) ?_))
      · have := pack_length acc; omega
      · by_cases h2 : pack acc = list
        · refine ev_pos (by simpa using h2) ?_
          rw [if_pos ⟨h, h2⟩]
          exact ev_ret rfl
        · refine ev_neg (by simpa using h2) ?_
          rw [if_neg (fun x => h2 x.2)]
          exact ev_ret rfl
    · refine ev_neg h ?_
      rw [if_neg (fun x => h x.1)]
      exact ev_ret rfl
  | succ d ih =>
    intro i acc hi ha
    have hm := hr list[i] (List.getElem_mem _)
    have hu := unpackOne_length list[i]
    refine Ev.step (fun k => by rw [spec_Unpack.l0]) ?_
    refine ev_pos (by omega) (ev_pos (by omega) (ev_bind (by rw [rd_nat (by omega)]; exact spec_UnpackOne_ev _ hm) (ev_pos (by rw [toB_size, toB_size]; omega) ?_)))
    rw [w64 (by omega) (by omega), show ((i : Int) + 1) = ((i + 1 : Nat) : Int) by omega, toB_append]
    refine ev_to (ih (i + 1) _ (by omega) (by rw [List.length_append]; omega)) ?_
    rw [List.drop_eq_getElem_cons (by omega : i < list.length)]
    simp only [unpackAll, List.flatMap_cons, List.append_assoc]
theorem spec_Unpack_ev (list : List Int) (hr : ∀ x ∈ list, 0 ≤ x ∧ x ≤ 4294967295) : Ev (fun k => spec_Unpack.f k list) (toB (unpack list).1, (unpack list).2) := by
  unfold unpack
  by_cases h : list.length > 24
  · rw [if_pos h]; exact ev_pos (by omega) (ev_ret rfl)
  · rw [if_neg h]
    refine ev_neg (by omega) (ev_to (spec_Unpack_l0 list (by omega) hr list.length 0 [] (by omega) (by simp)) ?_)
    simp only [List.drop_zero, List.nil_append]
    split <;> rfl

/-! ### spec_l04Name -/
def nameRes (kd : Int) (F : List Int) : Int × ByteArray × Int × Bool × Int × Int := if (unpack F).2 = true then (kd, toB (unpack F).1, 0, false, 0, (F.length : Int)) else (0, ⟨#[]⟩, 0, false, 0, 0)
theorem spec_l04Name_l0 (kd : Int) (suf : List Int) : ∀ pre acc : List Int, pre.length + suf.length ≤ 1000 → acc.length ≤ pre.length + 1 → (∀ x ∈ acc, 0 ≤ x ∧ x ≤ 4294967295) → (∀ x ∈ suf, 0 ≤ x ∧ x ≤ 4294967295) →
    Ev (fun k => spec_l04Name.l0 k (pre ++ suf) kd acc (pre.length : Int)) (nameRes kd (acc ++ (tailOf suf).map (· / 16))) := by
  have leaf : ∀ acc : List Int, (∀ x ∈ acc, 0 ≤ x ∧ x ≤ 4294967295) → Ev (fun k => (spec_Unpack.f k acc).bind fun bt => (if bt.2 = true then (some (kd, bt.1, 0, false, 0, (acc.length : Int))) else (some (0, (⟨#[]⟩ : ByteArray), 0, false, 0, 0)))) (nameRes kd acc) := by
    intro acc hr
    unfold nameRes
    refine ev_bind (spec_Unpack_ev acc hr) (ev_ite (fun h => ?_) (fun h => ?_))
    · rw [if_pos h]; exact ev_ret rfl
    · rw [if_neg h]; exact ev_ret rfl
  induction suf with
  | nil =>
    intro pre acc hl ha hr hs
    refine Ev.step (fun k => by rw [spec_l04Name.l0]) ?_
    rw [tail_nil, List.map_nil, List.append_nil, List.append_nil]
    exact ev_neg (by omega) (leaf acc hr)
  | cons d suf ih =>
    intro pre acc hl ha hr hs
    have hd := hs d (by simp)
    have hlen : (pre ++ d :: suf).length = pre.length + suf.length + 1 := by rw [List.length_append, List.length_cons]; omega
    rw [List.length_cons] at hl
    refine Ev.step (fun k => by rw [spec_l04Name.l0]) ?_
    rw [rd_mid rfl, tmod_16 hd, tdiv_16 hd]
    refine ev_pos (by omega) (ev_pos (by omega) (ev_ite (fun h16 => ev_ite (fun h0 => ?_) (fun h0 => ev_pos (by omega) ?_)) (fun h16 => ?_)))
    · rw [tail_no (by omega), List.map_nil, List.append_nil]
      exact leaf acc hr
    · have e := ih (pre ++ [d]) (acc ++ [d / 16]) (by rw [List.length_append, List.length_singleton]; omega) (by rw [List.length_append, List.length_append, List.length_singleton, List.length_singleton]; omega) (fun x hx => by
        rcases List.mem_append.1 hx with hx | hx
        · exact hr x hx
        · rw [List.mem_singleton] at hx; rw [hx]; exact range_16 hd) (fun x hx => hs x (by simp [hx]))
      rw [List.append_assoc, List.singleton_append, List.append_assoc, List.singleton_append, show (pre ++ [d]).length = pre.length + 1 by simp] at e
      rw [tail_yes h16 h0, List.map_cons, w64 (by omega) (by omega), show ((pre.length : Int) + 1) = ((pre.length + 1 : Nat) : Int) by omega]
      exact e
    · rw [tail_no (by omega), List.map_nil, List.append_nil]
      exact leaf acc hr
theorem spec_l04Name_ev (pre : List Int) (c : Int) (rest : List Int) (kd : Int) (hl : pre.length + rest.length ≤ 500) (hc : 0 ≤ c ∧ c ≤ 4294967295) (hr : ∀ x ∈ rest, 0 ≤ x ∧ x ≤ 4294967295) :
    Ev (fun k => spec_l04Name.f k (pre ++ c :: rest) (pre.length : Int) kd) (nameRes kd (c / 16 :: (tailOf rest).map (· / 16))) := by
  have hlen : (pre ++ c :: rest).length = pre.length + rest.length + 1 := by rw [List.length_append, List.length_cons]; omega
  have e := spec_l04Name_l0 kd rest (pre ++ [c]) [c / 16] (by rw [List.length_append, List.length_singleton]; omega) (by simp) (fun x hx => by rw [List.mem_singleton] at hx; rw [hx]; exact range_16 hc) hr
  rw [List.append_assoc, List.singleton_append, List.length_append, List.length_singleton] at e
  unfold spec_l04Name.f
  rw [rd_mid rfl, tdiv_16 hc, w64 (by omega) (by omega), show ((pre.length : Int) + 1) = ((pre.length + 1 : Nat) : Int) by omega]
  exact ev_pos (by omega) (ev_pos (by omega) e)

/-! ### spec_l04Number -/
def numRes (c : Int) (rest : List Int) : Int × ByteArray × Int × Bool × Int × Int :=
  if c % 16 = 8 ∨ c % 16 = 6 then tup6 (parseOne c rest) else if (parseOne c rest).2 = 2 then tup6 (parseOne c rest) else (0, ⟨#[]⟩, 0, false, 0, 0)
theorem spec_l04Number_ev (pre : List Int) (c : Int) (rest : List Int) (hl : pre.length + rest.length ≤ 500) (hc : 0 ≤ c ∧ c ≤ 4294967295) (hr : ∀ x ∈ rest, 0 ≤ x ∧ x ≤ 4294967295) (ht : c % 16 = 8 ∨ c % 16 = 6 ∨ c % 16 = 2 ∨ c % 16 = 5) :
    ∃ r, Ev (fun k => spec_l04Number.f k (pre ++ c :: rest) (pre.length : Int)) r ∧ (if r.2.2.2.2.2 = 0 then (0, (⟨#[]⟩ : ByteArray), 0, false, c, 1) else r) = tup6 (parseOne c rest) := by
  have hlen : (pre ++ c :: rest).length = pre.length + rest.length + 1 := by rw [List.length_append, List.length_cons]; omega
  have hraw : (0, (⟨#[]⟩ : ByteArray), 0, false, c, 1) = tup6 (rawIt c, 1) := rfl
  have hw : wrap64 ((pre.length : Int) + 1) = ((pre.length + 1 : Nat) : Int) := by rw [w64 (by omega) (by omega)]; omega
  -- behind the kind
  have j2 : ∀ (kd s t : Int) (b : Bool), (b = true ↔ (c % 16 = 8 ∨ c % 16 = 6)) → (b = true → (c % 16 = 8 ∧ kd = 7) ∨ (c % 16 = 6 ∧ kd = 8)) → (b = false → c % 16 = t ∧ kd = (if c % 16 = 5 then 8 else 7) ∧ ∀ n h, cellsOf ⟨kd, [], n, h, 0⟩ = numCells n h s t) →
      ∃ r, Ev (fun k => spec_l04Number.j2 k (pre ++ c :: rest) (pre.length : Int) c b kd ⟨#[]⟩ 0 (hexOf c) 0) r ∧ (if r.2.2.2.2.2 = 0 then (0, (⟨#[]⟩ : ByteArray), 0, false, c, 1) else r) = tup6 (parseOne c rest) := by
    intro kd s t b hb h1 h2
    cases b with
    | true =>
      refine ⟨(kd, ⟨#[]⟩, wrap32 c / 32, hexOf c, 0, 1), Ev.step (fun k => by rw [spec_l04Number.j2]) (ev_pos rfl (ev_ret rfl)), ?_⟩
      rw [if_neg (by simp)]
      rcases h1 rfl with ⟨h, rfl⟩ | ⟨h, rfl⟩
      · rw [parse_8 h]; rfl
      · rw [parse_6 h]; rfl
    | false =>
      obtain ⟨g1, g2, g3⟩ := h2 rfl
      have h25 : c % 16 = 2 ∨ c % 16 = 5 := by
        have : ¬ (c % 16 = 8 ∨ c % 16 = 6) := fun h => by simpa using hb.2 h
        omega
      cases rest with
      | nil =>
        refine ⟨(0, ⟨#[]⟩, 0, false, 0, 0), Ev.step (fun k => by rw [spec_l04Number.j2]) (ev_neg (by simp) (ev_pos (by rw [hw]; rw [List.length_nil] at hlen; omega) (ev_ret rfl))), ?_⟩
        rw [if_pos rfl, parse_25_nil h25, hraw]
      | cons d r =>
        have hd := hr d (by simp)
        rw [List.length_cons] at hlen hl
        have hrd : rd (pre ++ c :: d :: r) ((pre.length + 1 : Nat) : Int) = d := by
          have := rd_mid (a := pre ++ [c]) (b := r) (x := d) (i := pre.length + 1) (by simp)
          rwa [List.append_assoc, List.singleton_append] at this
        rw [parse_25 h25]
        by_cases h32 : c < 32
        · have e := spec_CellsOf_ev ⟨kd, [], wrap32 d, hexOf c, 0⟩ (w32_range d)
          rw [g3] at e
          have hin : (Int.tdiv c 32) % 4294967296 = 0 := by rw [Int.tdiv_eq_ediv_of_nonneg hc.1]; omega
          by_cases hs : -67108864 ≤ wrap32 d ∧ wrap32 d ≤ 67108863
          · have el : (numCells (wrap32 d) (hexOf c) s t).length = 1 := by unfold numCells; rw [if_pos hs]; rfl
            refine ⟨(kd, ⟨#[]⟩, wrap32 d, hexOf c, 0, 0), Ev.step (fun k => by rw [spec_l04Number.j2]) ?_, ?_⟩
            · rw [hw, hrd, hin]
              refine ev_neg (by simp) (ev_neg (by omega) (ev_pos rfl (ev_pos (by omega) (ev_pos (by omega) (ev_bind e (ev_ret ?_))))))
              rw [el, show wrap64 ((wrap64 (((1 : Nat) : Int) / 2)) * 2) = 0 by unfold wrap64; omega]
            · rw [if_pos rfl, if_neg (fun g => g.2 hs), hraw]
          · have el : (numCells (wrap32 d) (hexOf c) s t).length = 2 := by unfold numCells; rw [if_neg hs]; rfl
            refine ⟨(kd, ⟨#[]⟩, wrap32 d, hexOf c, 0, 2), Ev.step (fun k => by rw [spec_l04Number.j2]) ?_, ?_⟩
            · rw [hw, hrd, hin]
              refine ev_neg (by simp) (ev_neg (by omega) (ev_pos rfl (ev_pos (by omega) (ev_pos (by omega) (ev_bind e (ev_ret ?_))))))
              rw [el, show wrap64 ((wrap64 (((2 : Nat) : Int) / 2)) * 2) = 2 by unfold wrap64; omega]
            · rw [if_neg (by simp), if_pos ⟨h32, hs⟩, g2]; rfl
        · have hin : ¬ (Int.tdiv c 32) % 4294967296 = 0 := by rw [Int.tdiv_eq_ediv_of_nonneg hc.1]; omega
          refine ⟨(0, ⟨#[]⟩, 0, false, 0, 0), Ev.step (fun k => by rw [spec_l04Number.j2]) ?_, ?_⟩
          · rw [hw]
            exact ev_neg (by simp) (ev_neg (by omega) (ev_neg hin (ev_ret rfl)))
          · rw [if_pos rfl, if_neg (fun g => h32 g.1), hraw]
  have j1 : ∀ (kd s t : Int), ((c % 16 = 8 ∧ kd = 7) ∨ (c % 16 = 6 ∧ kd = 8) ∨ (c % 16 = t ∧ (c % 16 = 2 ∨ c % 16 = 5) ∧ kd = (if c % 16 = 5 then 8 else 7) ∧ ∀ n h, cellsOf ⟨kd, [], n, h, 0⟩ = numCells n h s t)) →
      ∃ r, Ev (fun k => spec_l04Number.j1 k (pre ++ c :: rest) (pre.length : Int) c (c % 16) kd ⟨#[]⟩ 0 (hexOf c) 0) r ∧ (if r.2.2.2.2.2 = 0 then (0, (⟨#[]⟩ : ByteArray), 0, false, c, 1) else r) = tup6 (parseOne c rest) := by
    intro kd s t h
    by_cases h8 : c % 16 = 8
    · obtain ⟨r, e, p⟩ := j2 kd s t true ⟨fun _ => .inl h8, fun _ => rfl⟩ (fun _ => by
        rcases h with h | h | h
        · exact .inl h
        · omega
        · omega) (fun h => by cases h)
      exact ⟨r, Ev.step (fun k => by rw [spec_l04Number.j1]) (ev_pos h8 e), p⟩
    · have hb : ((c % 16 == 6) = true ↔ (c % 16 = 8 ∨ c % 16 = 6)) := by rw [beq_iff_eq]; omega
      obtain ⟨r, e, p⟩ := j2 kd s t (c % 16 == 6) hb (fun g => by
        have := beq_iff_eq.1 g
        rcases h with h | h | h
        · omega
        · exact .inr h
        · omega) (fun g => by
        have : ¬ c % 16 = 6 := by simpa using g
        rcases h with h | h | h
        · omega
        · omega
        · exact ⟨h.1, h.2.2.1, h.2.2.2⟩)
      exact ⟨r, Ev.step (fun k => by rw [spec_l04Number.j1]) (ev_neg h8 e), p⟩
  have fin : ∀ b : Bool, (b = true ↔ (c % 16 = 6 ∨ c % 16 = 5)) → ∃ r, Ev (fun k => spec_l04Number.j0 k (pre ++ c :: rest) (pre.length : Int) c (c % 16) b 7 ⟨#[]⟩ 0 (hexOf c) 0) r ∧ (if r.2.2.2.2.2 = 0 then (0, (⟨#[]⟩ : ByteArray), 0, false, c, 1) else r) = tup6 (parseOne c rest) := by
    intro b hb
    by_cases h : c % 16 = 6 ∨ c % 16 = 5
    · obtain ⟨r, e, p⟩ := j1 8 6 5 (by
        rcases h with h | h
        · exact .inr (.inl ⟨h, rfl⟩)
        · exact .inr (.inr ⟨h, .inr h, by rw [if_pos h], cells8⟩))
      exact ⟨r, Ev.step (fun k => by rw [spec_l04Number.j0]) (ev_pos (hb.2 h) e), p⟩
    · obtain ⟨r, e, p⟩ := j1 7 8 2 (by
        by_cases h8 : c % 16 = 8
        · exact .inl ⟨h8, rfl⟩
        · exact .inr (.inr ⟨by omega, .inl (by omega), by rw [if_neg (by omega)], cells7⟩))
      exact ⟨r, Ev.step (fun k => by rw [spec_l04Number.j0]) (ev_neg (fun g => h (hb.1 g)) e), p⟩
  unfold spec_l04Number.f
  rw [rd_mid rfl, tmod_16 hc, and_16 hc]
  by_cases h6 : c % 16 = 6
  · obtain ⟨r, e, p⟩ := fin true ⟨fun _ => .inl h6, fun _ => rfl⟩
    exact ⟨r, ev_pos (by omega) (ev_pos (by omega) (ev_pos h6 e)), p⟩
  · obtain ⟨r, e, p⟩ := fin (c % 16 == 5) (by rw [beq_iff_eq]; omega)
    exact ⟨r, ev_pos (by omega) (ev_pos (by omega) (ev_neg h6 e)), p⟩

/-! ### spec_FieldOk -/
theorem spec_FieldOk_ev (f : Int) (hf : 0 ≤ f ∧ f ≤ 4294967295) : Ev (fun k => spec_FieldOk.f k f) (fieldOk f) := by
  refine ev_bind (spec_UnpackOne_ev f hf) (ev_bind (spec_Pack_ev _) ?_)
  unfold fieldOk
  by_cases h : ((pack (unpackOne f)).length : Int) = 1
  · refine ev_pos h (ev_pos (by omega) (ev_ret ?_))
    obtain ⟨a, ha⟩ := List.length_eq_one_iff.1 (show (pack (unpackOne f)).length = 1 by omega)
    rw [ha]; simp [rd]
    rfl
  · refine ev_neg h (ev_ret ?_)
    rw [decide_eq_false]
    intro e
    rw [e] at h
    simp at h

/-! ### spec_l04Item -/
theorem spec_l04Item_ev (pre : List Int) (c : Int) (rest : List Int) (hl : pre.length + rest.length ≤ 500) (hc : 0 ≤ c ∧ c ≤ 4294967295) (hr : ∀ x ∈ rest, 0 ≤ x ∧ x ≤ 4294967295) :
    Ev (fun k => spec_l04Item.f k (pre ++ c :: rest) (pre.length : Int)) (tup6 (parseOne c rest)) := by
  have hlen : (pre ++ c :: rest).length = pre.length + rest.length + 1 := by rw [List.length_append, List.length_cons]; omega
  have hrd : rd (pre ++ c :: rest) (pre.length : Int) = c := rd_mid rfl
  have hk := kindOf_cases (c % 16)
  have hw : wrap64 ((pre.length : Int) + 1) = ((pre.length + 1 : Nat) : Int) := by rw [w64 (by omega) (by omega)]; omega
  have raw : ∀ p : It × Nat, p = (rawIt c, 1) → (0, (⟨#[]⟩ : ByteArray), 0, false, c, 1) = tup6 p := fun p h => by rw [h]; rfl
  have j1no : parseOne c rest = (rawIt c, 1) → Ev (fun k => spec_l04Item.j1 k (pre ++ c :: rest) (pre.length : Int) 0 false 0 ⟨#[]⟩ 0 false 0) (tup6 (parseOne c rest)) := by
    intro h
    refine Ev.step (fun k => by rw [spec_l04Item.j1]) ?_
    rw [hrd]
    exact ev_neg (by simp) (ev_pos rfl (ev_pos (by omega) (ev_pos (by omega) (ev_ret (raw _ h)))))
  have j0 : ∀ b : Bool, (b = true ↔ (c % 16 = 8 ∨ c % 16 = 6 ∨ c % 16 = 2 ∨ c % 16 = 5)) → kindOf (c % 16) = 0 → Ev (fun k => spec_l04Item.j0 k (pre ++ c :: rest) (pre.length : Int) 0 (c % 16) b 0 ⟨#[]⟩ 0 false 0) (tup6 (parseOne c rest)) := by
    intro b hb h0
    refine Ev.step (fun k => by rw [spec_l04Item.j0]) ?_
    rw [hrd, tdiv_16 hc, hw]
    by_cases hn : c % 16 = 8 ∨ c % 16 = 6 ∨ c % 16 = 2 ∨ c % 16 = 5
    · obtain ⟨r, e, p⟩ := spec_l04Number_ev pre c rest hl hc hr hn
      refine ev_pos (hb.2 hn) (ev_bind e (ev_ite (fun h => ev_pos (by omega) (ev_pos (by omega) (ev_ret ?_))) (fun h => ev_ret ?_)))
      · rw [if_pos h] at p; exact p
      · rw [if_neg h] at p; exact p
    · refine ev_neg (fun g => hn (hb.1 g)) (ev_ite (fun h12 => ?_) (fun h12 => ?_))
      · cases rest with
        | nil =>
          rw [List.length_nil] at hlen
          exact ev_neg (by omega) (j1no (parse_12_nil h12))
        | cons d r =>
          rw [List.length_cons] at hlen
          have hrd2 : rd (pre ++ c :: d :: r) ((pre.length + 1 : Nat) : Int) = d := by
            have := rd_mid (a := pre ++ [c]) (b := r) (x := d) (i := pre.length + 1) (by simp)
            rwa [List.append_assoc, List.singleton_append] at this
          refine ev_pos (by omega) (ev_pos (by omega) (ev_pos (by omega) (ev_bind (spec_FieldOk_ev _ (range_16 hc)) ?_)))
          by_cases hf : fieldOk (c / 16) = true
          · rw [hf]
            refine Ev.step (fun k => by rw [spec_l04Item.j1]) ?_
            rw [hrd, tdiv_16 hc, hw, hrd2]
            refine ev_pos rfl (ev_pos (by omega) (ev_pos (by omega) (ev_bind (spec_UnpackOne_ev _ (range_16 hc)) (ev_pos (by omega) (ev_pos (by omega) (ev_neg (by decide) (ev_ret ?_)))))))
            rw [parse_12 h12, if_pos hf]; rfl
          · rw [show fieldOk (c / 16) = false by simpa using hf]
            exact j1no (by rw [parse_12 h12, if_neg hf])
      · exact j1no (parse_no h0 (by omega) (by omega) (by omega) (by omega) h12)
  unfold spec_l04Item.f
  rw [hrd, tmod_16 hc]
  refine ev_pos (by omega) (ev_pos (by omega) (ev_bind (spec_l04Kind_ev _) ?_))
  by_cases h0 : kindOf (c % 16) = 0
  · rw [if_pos h0]
    refine ev_neg (by omega) ?_
    refine ev_ite (fun h => j0 true ⟨fun _ => .inl h, fun _ => rfl⟩ h0) (fun h8 => ?_)
    refine ev_ite (fun h => j0 true ⟨fun _ => .inr (.inl h), fun _ => rfl⟩ h0) (fun h6 => ?_)
    refine ev_ite (fun h => j0 true ⟨fun _ => .inr (.inr (.inl h)), fun _ => rfl⟩ h0) (fun h2 => ?_)
    exact j0 _ (by rw [beq_iff_eq]; omega) h0
  · rw [if_neg h0]
    refine ev_pos (by omega) (ev_bind (spec_l04Kind_ev _) ?_)
    rw [if_neg h0]
    refine ev_bind (spec_l04Name_ev pre c rest _ hl hc hr) ?_
    rw [parse_word2 (by omega), nameRes]
    by_cases hu : (unpack (c / 16 :: (tailOf rest).map (· / 16))).2 = true
    · rw [if_pos hu, if_pos hu]
      refine ev_neg (by simp only [List.length_cons]; omega) (ev_ret ?_)
      simp [tup6]
    · rw [if_neg hu, if_neg hu]
      exact ev_pos rfl (ev_ret (raw _ rfl))

/-! ### spec_ParseCells -/
theorem spec_ParseCells_l1 (n : Nat) : ∀ l : List It, l.length = n → l.length ≤ 1000 → Ev (fun k => spec_ParseCells.l1 k (l.map toS)) ((trimR l).map toS) := by
  induction n with
  | zero =>
    intro l hn hl
    obtain rfl : l = [] := List.eq_nil_of_length_eq_zero hn
    refine Ev.step (fun k => by rw [spec_ParseCells.l1]) ?_
    exact ev_neg (by simp) (ev_ret rfl)
  | succ n ih =>
    intro l hn hl
    obtain ⟨m, it, rfl⟩ : ∃ (m : List It) (it : It), l = m ++ [it] := by
      have hne : l ≠ [] := by intro e; rw [e] at hn; simp at hn
      exact ⟨l.dropLast, l.getLast hne, (List.dropLast_concat_getLast hne).symm⟩
    rw [List.length_append, List.length_singleton] at hn hl
    have hlen : ((m ++ [it]).map toS).length = m.length + 1 := by simp
    have next := ih m (by omega) (by omega)
    have htake : ((m ++ [it]).map toS).take m.length = m.map toS := by rw [List.map_append]; exact List.take_left' (by simp)
    refine Ev.step (fun k => by rw [spec_ParseCells.l1]) ?_
    rw [hlen, w64 (by omega) (by omega), show ((m.length + 1 : Nat) : Int) - 1 = (m.length : Int) by omega, rd_last, Int.toNat_natCast, htake, trimR_snoc]
    refine ev_pos (by omega) (ev_pos (by omega) (ev_pos (by omega) (ev_ite (fun h => ev_pos (by omega) ?_) (fun h => ev_ret ?_))))
    · rw [if_pos ((toS_zero it).1 h)]
      exact next
    · rw [if_neg (fun g => h ((toS_zero it).2 g))]
theorem spec_ParseCells_l0 (n : Nat) : ∀ (pre l : List Int) (out : List It), l.length ≤ n → pre.length + l.length ≤ 100 → out.length ≤ pre.length → (∀ x ∈ l, 0 ≤ x ∧ x ≤ 4294967295) → Ev (fun k => spec_ParseCells.l0 k (pre ++ l) (out.map toS) (pre.length : Int)) ((trimR (out ++ parseF n l)).map toS) := by
  have done : ∀ (pre : List Int) (out : List It), pre.length ≤ 100 → out.length ≤ pre.length → Ev (fun k => spec_ParseCells.l0 k (pre ++ []) (out.map toS) (pre.length : Int)) ((trimR (out ++ [])).map toS) := by
    intro pre out h1 h2
    refine Ev.step (fun k => by rw [spec_ParseCells.l0]) ?_
    rw [List.append_nil, List.append_nil]
    exact ev_neg (by omega) (spec_ParseCells_l1 out.length out rfl (by omega))
  induction n with
  | zero =>
    intro pre l out hn hp ho hr
    obtain rfl : l = [] := List.eq_nil_of_length_eq_zero (by omega)
    rw [List.length_nil] at hp
    exact done pre out (by omega) ho
  | succ n ih =>
    intro pre l out hn hp ho hr
    cases l with
    | nil =>
      rw [List.length_nil] at hp
      exact done pre out (by omega) ho
    | cons c rest =>
      rw [List.length_cons] at hn hp
      have hc := hr c (by simp)
      have hrest : ∀ x ∈ rest, 0 ≤ x ∧ x ≤ 4294967295 := fun x hx => hr x (by simp [hx])
      obtain ⟨h1, h2, h3⟩ := cells_one c rest hc hrest
      have hlen : (pre ++ c :: rest).length = pre.length + rest.length + 1 := by rw [List.length_append, List.length_cons]; omega
      have htl : ((c :: rest).take (parseOne c rest).2).length = (parseOne c rest).2 := by rw [List.length_take, List.length_cons]; omega
      have next := ih (pre ++ (c :: rest).take (parseOne c rest).2) ((c :: rest).drop (parseOne c rest).2) (out ++ [(parseOne c rest).1]) (by rw [List.length_drop, List.length_cons]; omega) (by rw [List.length_append, htl, List.length_drop, List.length_cons]; omega) (by rw [List.length_append, List.length_append, htl, List.length_singleton]; omega) (drop_mem hr _)
      rw [List.append_assoc, List.take_append_drop, List.append_assoc, List.singleton_append, List.map_append, List.map_cons, List.map_nil, List.length_append, htl] at next
      refine Ev.step (fun k => by rw [spec_ParseCells.l0]) ?_
      rw [parseF]
      refine ev_pos (by omega) (ev_bind (spec_l04Item_ev pre c rest (by omega) hc hrest) (ev_pos (by rw [List.length_map]; omega) ?_))
      simp only [tup6]
      rw [w64 (by omega) (by omega), show ((pre.length : Int) + ((parseOne c rest).2 : Int)) = ((pre.length + (parseOne c rest).2 : Nat) : Int) by omega]
      exact next
theorem spec_ParseCells_ev (l : List Int) (hl : l.length ≤ 70368744177664) (hr : ∀ x ∈ l, 0 ≤ x ∧ x ≤ 4294967295) : Ev (fun k => spec_ParseCells.f k l) ((parse l).map toS) := by
  refine ev_some ?_
  unfold parse
  by_cases h : l.length > 64
  · rw [if_pos h]
    exact ev_pos (by omega) (ev_ret rfl)
  · rw [if_neg h]
    exact ev_neg (by omega) (spec_ParseCells_l0 l.length [] l [] (Nat.le_refl _) (by simp only [List.length_nil]; omega) (by simp) hr)

/-! ### spec_ItemOk -/
theorem spec_ItemOk_ev (it : It) (hn : -2147483648 ≤ it.n ∧ it.n ≤ 2147483647) : Ev (fun k => spec_ItemOk.f k it.kind (toB it.name) it.n it.hex it.raw) (decide (0 < (cellsOf it).length)) := by
  refine ev_bind (spec_CellsOf_ev it hn) (ev_ret ?_)
  rw [Bool.eq_iff_iff, decide_eq_true_eq, decide_eq_true_eq]; omega

/-! ### spec_l06Mark -/
theorem spec_l06Mark_ev (x : Int) : Ev (fun k => spec_l06Mark.f k x) (toB (markL x)) := by
  have j1 : ∀ b : Bool, (b = true ↔ x = 3 ∨ x = 8) → x ≠ 1 → x ≠ 7 → x ≠ 2 → Ev (fun k => spec_l06Mark.j1 k x b) (toB (markL x)) := by
    intro b hb h1 h7 h2
    refine Ev.step (fun k => by rw [spec_l06Mark.j1]) ?_
    unfold markL
    rw [if_neg h1, if_neg h7, if_neg h2]
    refine ev_ite (fun h => ev_ret ?_) (fun h => ?_)
    · rcases hb.1 h with e | e
      · rw [if_pos e]; rfl
      · rw [if_neg (by omega), if_pos e]; rfl
    · have h3 : x ≠ 3 := fun e => h (hb.2 (.inl e))
      have h8 : x ≠ 8 := fun e => h (hb.2 (.inr e))
      rw [if_neg h3, if_neg h8]
      refine ev_ite (fun h => ev_ret (by rw [if_pos h]; rfl)) (fun h4 => ?_)
      rw [if_neg h4]
      refine ev_ite (fun h => ev_ret (by rw [if_pos h]; rfl)) (fun h5 => ?_)
      rw [if_neg h5]
      refine ev_ite (fun h => ev_ret (by rw [if_pos h]; rfl)) (fun h6 => ?_)
      rw [if_neg h6]
      refine ev_ite (fun h => ev_ret (by rw [if_pos h]; rfl)) (fun h9 => ev_ret ?_)
      rw [if_neg h9]; rfl
  have j0 : ∀ b : Bool, (b = true ↔ x = 1 ∨ x = 7) → Ev (fun k => spec_l06Mark.j0 k x b) (toB (markL x)) := by
    intro b hb
    refine Ev.step (fun k => by rw [spec_l06Mark.j0]) ?_
    refine ev_ite (fun h => ev_ret ?_) (fun h => ?_)
    · unfold markL
      rcases hb.1 h with e | e
      · rw [if_pos e]; rfl
      · rw [if_neg (by omega), if_pos e]; rfl
    · have h1 : x ≠ 1 := fun e => h (hb.2 (.inl e))
      have h7 : x ≠ 7 := fun e => h (hb.2 (.inr e))
      refine ev_ite (fun h2 => ev_ret ?_) (fun h2 => ?_)
      · unfold markL
        rw [if_neg h1, if_neg h7, if_pos h2]; rfl
      · refine ev_ite (fun h3 => j1 _ ?_ h1 h7 h2) (fun h3 => j1 _ ?_ h1 h7 h2)
        · rw [beq_iff_eq]; omega
        · rw [beq_iff_eq]; omega
  refine ev_ite (fun h => j0 _ ?_) (fun h => j0 _ ?_)
  · rw [beq_iff_eq]; omega
  · rw [beq_iff_eq]; omega

/-! ### spec_HexText -/
theorem spec_HexText_l0 (n : Nat) : ∀ (u : Nat) (acc : List UInt8), u < 16 ^ n → acc.length + n ≤ 100 → u ≤ 4294967295 →
    Ev (fun k => spec_HexText.l0 k (toB acc) (u : Int)) (toB (hexN u ++ acc)) := by
  have stop : ∀ acc : List UInt8, Ev (fun k => spec_HexText.l0 k (toB acc) ((0 : Nat) : Int)) (toB (hexN 0 ++ acc)) := by
    intro acc
    refine Ev.step (fun k => by rw [spec_HexText.l0]) ?_
    exact ev_neg (by omega) (ev_ret rfl)
  induction n with
  | zero =>
    intro u acc hu ha h1
    obtain rfl : u = 0 := by rw [Nat.pow_zero] at hu; omega
    exact stop acc
  | succ n ih =>
    intro u acc hu ha h1
    by_cases hz : u = 0
    · subst hz; exact stop acc
    rw [Nat.pow_succ] at hu
    have hd : u % 16 < 16 := Nat.mod_lt _ (by decide)
    have e := ih (u / 16) (Hex.hexDig (u % 16) :: acc) (by omega) (by rw [List.length_cons]; omega) (by omega)
    refine Ev.step (fun k => by rw [spec_HexText.l0]) ?_
    rw [tmod16, tdiv16, w64 (x := ((u % 16 : Nat) : Int) + 1) (by omega) (by omega), show ((u % 16 : Nat) : Int) + 1 = ((u % 16 + 1 : Nat) : Int) by omega, Int.toNat_natCast, Int.toNat_natCast, hex_cut (u % 16) hd, toB_append', toB_size, toB_size, w64 (x := ((u / 16 : Nat) : Int)) (by omega) (by omega)]
    refine ev_pos (by omega) (ev_pos (by omega) (ev_pos (by omega) (ev_pos (by omega) (ev_pos (by rw [List.length_singleton]; omega) ?_))))
    rw [hexN_step u hz, List.append_assoc]
    exact e
theorem spec_HexText_ev (u : Nat) (h1 : u ≤ 4294967295) : Ev (fun k => spec_HexText.f k (u : Int)) (toB (Hex.hexL u)) := by
  refine ev_ite (fun h => ev_ret ?_) (fun h => ?_)
  · obtain rfl : u = 0 := by omega
    rw [Hex.hexL_small (by decide)]; rfl
  · rw [w64 (by omega) (by omega)]
    refine ev_to (spec_HexText_l0 8 u [] (by omega) (by decide) h1) ?_
    rw [List.append_nil, hexN, if_neg (by omega)]

/-! ### spec_DecText -/
theorem spec_DecText_l0 (x0 : Int) (n : Nat) : ∀ (m : Int) (acc : List UInt8), m.natAbs < 10 ^ n → acc.length + n ≤ 100 → -9223372036854775808 ≤ m → m ≤ 9223372036854775807 →
    Ev (fun k => spec_DecText.l0 k x0 (toB acc) m) (toB ((if x0 < 0 then [45] else []) ++ decL m.natAbs ++ acc)) := by
  have stop : ∀ acc : List UInt8, acc.length ≤ 100 → Ev (fun k => spec_DecText.l0 k x0 (toB acc) 0) (toB ((if x0 < 0 then [45] else []) ++ decL 0 ++ acc)) := by
    intro acc ha
    refine Ev.step (fun k => by rw [spec_DecText.l0]) ?_
    refine ev_pos rfl (ev_ite (fun h => ev_pos (by rw [toB_size]; omega) (ev_ret ?_)) (fun h => ev_ret ?_))
    · rw [if_pos h, show (⟨#[45]⟩ : ByteArray) = toB [45] from rfl, toB_append']; rfl
    · rw [if_neg h]; rfl
  induction n with
  | zero =>
    intro m acc hm ha h0 h1
    obtain rfl : m = 0 := by rw [Nat.pow_zero] at hm; omega
    exact stop acc (by omega)
  | succ n ih =>
    intro m acc hm ha h0 h1
    by_cases hz : m = 0
    · subst hz; exact stop acc (by omega)
    rw [Nat.pow_succ] at hm
    obtain ⟨u, hu⟩ : ∃ u, u = m.natAbs := ⟨_, rfl⟩
    have hd : u % 10 < 10 := Nat.mod_lt _ (by decide)
    have hcut := dec_cut (u % 10) hd
    have hgo : ∀ m' : Int, m'.natAbs = u / 10 → -9223372036854775808 ≤ m' → m' ≤ 9223372036854775807 → Ev (fun k => spec_DecText.l0 k x0 (toB (UInt8.ofNat (48 + u % 10) :: acc)) m') (toB ((if x0 < 0 then [45] else []) ++ decL m.natAbs ++ acc)) := by
      intro m' hm' g0 g1
      have e := ih m' (UInt8.ofNat (48 + u % 10) :: acc) (by rw [hm']; omega) (by rw [List.length_cons]; omega) g0 g1
      rw [hm'] at e
      rw [← hu, decL_step u (by omega)]
      refine ev_to e ?_
      simp only [List.append_assoc, List.singleton_append]
    refine Ev.step (fun k => by rw [spec_DecText.l0]) ?_
    refine ev_neg hz ?_
    rcases Int.natAbs_eq m with e | e
    · rw [← hu] at e
      rw [e, tmod_pos, tdiv_pos, w64 (x := ((u % 10 : Nat) : Int) + 1) (by omega) (by omega), show ((u % 10 : Nat) : Int) + 1 = ((u % 10 + 1 : Nat) : Int) by omega, Int.toNat_natCast, Int.toNat_natCast, hcut, toB_append', toB_size, toB_size, w64 (x := ((u / 10 : Nat) : Int)) (by omega) (by omega)]
      refine ev_neg (by omega) (ev_pos (by omega) (ev_pos (by omega) (ev_pos (by omega) (ev_pos (by rw [List.length_singleton]; omega) ?_))))
      rw [e] at hgo
      exact hgo _ (by omega) (by omega) (by omega)
    · rw [← hu] at e
      by_cases hm0 : u % 10 = 0
      · rw [e, tmod_neg, tdiv_neg, w64 (x := -((u % 10 : Nat) : Int) + 1) (by omega) (by omega), show -((u % 10 : Nat) : Int) + 1 = ((u % 10 + 1 : Nat) : Int) by omega, show -((u % 10 : Nat) : Int) = ((u % 10 : Nat) : Int) by omega, Int.toNat_natCast, Int.toNat_natCast, hcut, toB_append', toB_size, toB_size, w64 (x := -((u / 10 : Nat) : Int)) (by omega) (by omega)]
        refine ev_neg (by omega) (ev_pos (by omega) (ev_pos (by omega) (ev_pos (by omega) (ev_pos (by rw [List.length_singleton]; omega) ?_))))
        rw [e] at hgo
        exact hgo _ (by omega) (by omega) (by omega)
      · rw [e, tmod_neg, tdiv_neg, w64 (x := - -((u % 10 : Nat) : Int)) (by omega) (by omega), Int.neg_neg, w64 (x := ((u % 10 : Nat) : Int) + 1) (by omega) (by omega), show ((u % 10 : Nat) : Int) + 1 = ((u % 10 + 1 : Nat) : Int) by omega, Int.toNat_natCast, Int.toNat_natCast, hcut, toB_append', toB_size, toB_size, w64 (x := -((u / 10 : Nat) : Int)) (by omega) (by omega)]
        refine ev_pos (by omega) (ev_pos (by omega) (ev_pos (by omega) (ev_pos (by omega) (ev_pos (by rw [List.length_singleton]; omega) ?_))))
        rw [e] at hgo
        exact hgo _ (by omega) (by omega) (by omega)
theorem spec_DecText_ev (n : Int) (h0 : -9223372036854775808 ≤ n) (h1 : n ≤ 9223372036854775807) : Ev (fun k => spec_DecText.f k n) (toB (Lib.itoa n)) := by
  refine ev_ite (fun h => ev_ret ?_) (fun h => ?_)
  · subst h
    rw [show Lib.itoa 0 = Lib.decDigits 0 from Lib.itoa_nonneg 0, Lib.decDigits_one (by decide)]; rfl
  · refine ev_to (spec_DecText_l0 n 20 n [] (by omega) (by decide) h0 h1) ?_
    rw [itoa_decL n h, List.append_nil]

/-! ### spec_ItemText -/
theorem spec_ItemText_ev (it : It) (hn : -2147483648 ≤ it.n ∧ it.n ≤ 2147483647) (hr : 0 ≤ it.raw ∧ it.raw ≤ 4294967295) (hl : it.name.length ≤ 1048576) :
    Ev (fun k => spec_ItemText.f k it.kind (toB it.name) it.n it.hex it.raw) (toB (itemText it)) := by
  refine ev_bind (spec_ItemOk_ev it hn) ?_
  unfold itemText
  by_cases hok : 0 < (cellsOf it).length
  · rw [if_pos hok]
    refine ev_pos (decide_eq_true hok) (ev_bind (spec_l06Mark_ev it.kind) ?_)
    have hml := markL_len it.kind
    have hid := itoa_len32 hn
    have hm : it.n % 4294967296 = (((it.n % 4294967296).toNat : Nat) : Int) := by omega
    have hhl := hexL_len32 (u := (it.n % 4294967296).toNat) (by omega)
    have hrr : it.raw = ((it.raw.toNat : Nat) : Int) := by omega
    have hrl := hexL_len32 (u := it.raw.toNat) (by omega)
    have j0 : ∀ b : Bool, (b = true ↔ it.kind = 7 ∨ it.kind = 8) → Ev (fun k => spec_ItemText.j0 k (toB (markL it.kind)) it.kind b it.kind (toB it.name) it.n it.hex it.raw) (toB (if it.kind = 7 ∨ it.kind = 8 then markL it.kind ++ numL it.n it.hex else if it.kind = 9 then markL 9 ++ it.name ++ (35 :: Lib.itoa it.n) else if it.kind = 0 then markL 0 ++ Hex.hexL it.raw.toNat else markL it.kind ++ it.name)) := by
      intro b hb
      refine Ev.step (fun k => by rw [spec_ItemText.j0]) ?_
      have ed := spec_DecText_ev it.n (by omega) (by omega)
      rw [w64 (x := it.n) (by omega) (by omega)]
      refine ev_ite (fun h => ?_) (fun h => ?_)
      · rw [if_pos (hb.1 h)]
        unfold numL
        refine ev_ite (fun hx => ?_) (fun hx => ?_)
        · rw [if_pos hx, hm]
          refine ev_pos (by rw [toB_size]; omega) (ev_bind (spec_HexText_ev _ (by omega)) (ev_pos ?_ (ev_ret ?_)))
          · rw [show (⟨#[36]⟩ : ByteArray) = toB [36] from rfl, toB_append', toB_size, toB_size, List.length_append, List.length_singleton]; omega
          · rw [show (⟨#[36]⟩ : ByteArray) = toB [36] from rfl, toB_append', toB_append', List.append_assoc, Int.toNat_natCast]; rfl
        · rw [if_neg hx]
          refine ev_pos (by rw [toB_size]; omega) (ev_bind ed (ev_pos ?_ (ev_ret ?_)))
          · rw [show (⟨#[35]⟩ : ByteArray) = toB [35] from rfl, toB_append', toB_size, toB_size, List.length_append, List.length_singleton]; omega
          · rw [show (⟨#[35]⟩ : ByteArray) = toB [35] from rfl, toB_append', toB_append', List.append_assoc]; rfl
      · rw [if_neg (fun e => h (hb.2 e))]
        refine ev_ite (fun h9 => ?_) (fun h9 => ?_)
        · rw [if_pos h9, ← h9]
          refine ev_pos (by rw [toB_size, toB_size]; omega) (ev_pos ?_ (ev_bind ed (ev_pos ?_ (ev_ret ?_))))
          · rw [toB_append', toB_size, List.length_append]; omega
          · rw [show (⟨#[35]⟩ : ByteArray) = toB [35] from rfl, toB_append', toB_append', toB_size, toB_size, List.length_append, List.length_append, List.length_singleton]; omega
          · rw [show (⟨#[35]⟩ : ByteArray) = toB [35] from rfl, toB_append', toB_append', toB_append']; simp
        · rw [if_neg h9]
          refine ev_ite (fun h0 => ?_) (fun h0 => ?_)
          · rw [if_pos h0, ← h0, hrr]
            refine ev_bind (spec_HexText_ev _ (by omega)) (ev_pos ?_ (ev_ret ?_))
            · rw [toB_size, toB_size]; omega
            · rw [toB_append', Int.toNat_natCast]
          · rw [if_neg h0]
            refine ev_pos (by rw [toB_size, toB_size]; omega) (ev_ret ?_)
            rw [toB_append']
    refine ev_ite (fun h => j0 _ ?_) (fun h => j0 _ ?_)
    · rw [beq_iff_eq]; omega
    · rw [beq_iff_eq]; omega
  · rw [if_neg hok]
    exact ev_neg (by simpa using hok) (ev_ret rfl)

/-! ### spec_Export -/
theorem spec_Export_l0 (its : List It) (hs : ∀ it ∈ its, smallIt it) (hc : its.length ≤ 64) (d : Nat) : ∀ (i : Nat) (acc : List UInt8), i + d = its.length → acc.length ≤ i * 1048700 →
    Ev (fun k => spec_Export.l0 k (its.map toS) (toB acc) (i : Int)) (toB (exportF acc (decide (i = 0)) (its.drop i) ++ (if its = [] then [] else [10]))) := by
  induction d with
  | zero =>
    intro i acc hi ha
    refine Ev.step (fun k => by rw [spec_Export.l0]) (ev_neg (by rw [List.length_map]; omega) ?_)
    rw [List.drop_of_length_le (by omega), List.length_map]
    by_cases h0 : its = []
    · rw [if_pos h0, h0]
      exact ev_neg (by decide) (ev_ret (by rw [List.append_nil]; rfl))
    · have := List.length_pos_iff.2 h0
      rw [if_neg h0]
      exact ev_pos (by omega) (ev_pos (by rw [toB_size]; omega) (ev_ret (by rw [show (⟨#[10]⟩ : ByteArray) = toB [10] from rfl, toB_append']; rfl)))
  | succ d ih =>
    intro i acc hi ha
    have hlt : i < its.length := by omega
    have hlt2 : i < (its.map toS).length := by rw [List.length_map]; exact hlt
    have e : rd_T46 (its.map toS) (i : Int) = toS its[i] := by simp [rd_T46, List.getElem?_eq_getElem hlt]
    obtain ⟨hn, hm, hr⟩ := hs its[i] (List.getElem_mem _)
    have et := spec_ItemText_ev its[i] hn hr hm
    have h1 := itemText_len its[i] hn hr
    refine Ev.step (fun k => by rw [spec_Export.l0]) (ev_pos (by omega) ?_)
    rw [e, w64 (by omega) (by omega), show ((i : Int) + 1) = ((i + 1 : Nat) : Int) by omega, List.drop_eq_getElem_cons hlt, exportF]
    have nx : ∀ acc', acc' = (acc ++ sepL (decide (i = 0)) its[i]) ++ itemText its[i] → Ev (fun k => spec_Export.l0 k (its.map toS) (toB acc') ((i + 1 : Nat) : Int)) (toB (exportF ((acc ++ sepL (decide (i = 0)) its[i]) ++ itemText its[i]) false (its.drop (i + 1)) ++ (if its = [] then [] else [10]))) := by
      intro acc' ea
      have h2 := sepL_len (decide (i = 0)) its[i]
      have := ih (i + 1) acc' (by omega) (by rw [ea, List.length_append, List.length_append]; omega)
      rw [decide_eq_false (Nat.succ_ne_zero i), ea] at this
      rw [ea]
      exact this
    refine ev_ite (fun hp => ?_) (fun hp => ?_)
    · have hf : decide (i = 0) = false := decide_eq_false (by omega)
      refine ev_pos (by omega) (ev_ite (fun h2 => ?_) (fun h2 => ?_))
      · refine ev_pos (by rw [toB_size]; omega) (ev_bind et ?_)
        rw [show (⟨#[10]⟩ : ByteArray) = toB [10] from rfl, toB_append', toB_append', toB_size, toB_size]
        refine ev_pos (by rw [List.length_append, List.length_singleton]; omega) (nx _ ?_)
        rw [hf, sepL, if_neg (by simp), if_pos (show its[i].kind = 2 from h2)]
      · refine ev_pos (by rw [toB_size]; omega) (ev_bind et ?_)
        rw [show (⟨#[32]⟩ : ByteArray) = toB [32] from rfl, toB_append', toB_append', toB_size, toB_size]
        refine ev_pos (by rw [List.length_append, List.length_singleton]; omega) (nx _ ?_)
        rw [hf, sepL, if_neg (by simp), if_neg (show ¬ its[i].kind = 2 from h2)]
    · have hf : decide (i = 0) = true := decide_eq_true (by omega)
      refine ev_pos (by omega) (ev_bind et ?_)
      rw [toB_append', toB_size, toB_size]
      refine ev_pos (by omega) (nx _ ?_)
      rw [hf, sepL, if_pos rfl, List.append_nil]
theorem spec_Export_ev (l : List Int) (hl : l.length ≤ 70368744177664) (hr : ∀ x ∈ l, 0 ≤ x ∧ x ≤ 4294967295) : Ev (fun k => spec_Export.f k l) (toB (exportT l)) := by
  have h := spec_Export_l0 (parse l) (parse_small l hr) (parse_length l hr) (parse l).length 0 [] (by omega) (by simp)
  refine ev_bind (spec_ParseCells_ev l hl hr) (ev_to h ?_)
  unfold exportT
  rw [List.drop_zero]
  by_cases h0 : parse l = []
  · rw [if_pos h0, if_pos h0, h0]; rfl
  · rw [if_neg h0, if_neg h0]; rfl

/-! ### notes -/
/-- Words, each with a blank behind it. -/
def joinB : List (List UInt8 × UInt8) → List UInt8
  | [] => []
  | c :: r => c.1 ++ c.2 :: joinB r
def okW (w : List UInt8) : Prop := w ≠ [] ∧ ∀ b ∈ w, blankB b = false
theorem spotsC_wordB (w : List UInt8) (x : UInt8) (hx : blankB x = true) : ∀ (c : List UInt8) (a i : Nat) (l : List UInt8), (∀ b ∈ w, blankB b = false) → spotsC (w ++ x :: l) (some (c, a)) i = (c ++ w, a) :: spotsC l none (i + w.length + 1) := by
  induction w with
  | nil =>
    intro c a i l _
    rw [List.nil_append, spotsC, if_pos hx, List.append_nil]; rfl
  | cons b w ih =>
    intro c a i l hw
    rw [List.cons_append, spotsC, if_neg (by rw [hw b (by simp)]; simp), ih _ _ _ _ (fun y hy => hw y (List.mem_cons_of_mem _ hy)), List.append_assoc, List.singleton_append, List.length_cons]
    congr 2
    omega
theorem words_joinB (ws : List (List UInt8 × UInt8)) : (∀ c ∈ ws, okW c.1 ∧ blankB c.2 = true) → ∀ i, (spotsC (joinB ws) none i).map (·.1) = ws.map (·.1) := by
  induction ws with
  | nil => intro _ i; rfl
  | cons c ws ih =>
    intro h i
    obtain ⟨⟨h1, h2⟩, h3⟩ := h c (by simp)
    obtain ⟨w, x⟩ := c
    obtain ⟨b, r, rfl⟩ := List.exists_cons_of_ne_nil h1
    show (spotsC (b :: (r ++ x :: joinB ws)) none i).map (·.1) = _
    rw [spotsC, if_neg (by rw [h2 b (by simp)]; simp), spotsC_wordB r x h3 _ _ _ _ (fun y hy => h2 y (List.mem_cons_of_mem _ hy)), List.map_cons, ih (fun y hy => h y (List.mem_cons_of_mem _ hy)), List.map_cons]
    rfl
/-- The items' texts with the blanks behind them. -/
def exportB : List It → List (List UInt8 × UInt8)
  | [] => []
  | it :: [] => [(itemText it, 10)]
  | it :: it2 :: r => (itemText it, if it2.kind = 2 then 10 else 32) :: exportB (it2 :: r)
theorem exportF_B (its : List It) : ∀ (it : It) (acc : List UInt8), exportF (acc ++ itemText it) false its ++ [10] = acc ++ joinB (exportB (it :: its)) := by
  induction its with
  | nil => intro it acc; simp [exportF, exportB, joinB]
  | cons it2 r ih =>
    intro it acc
    rw [exportF, ih it2 ((acc ++ itemText it) ++ sepL false it2), exportB, joinB, sepL, if_neg (by simp)]
    by_cases h : it2.kind = 2
    · rw [if_pos h, if_pos h]; simp
    · rw [if_neg h, if_neg h]; simp
theorem exportB_fst (its : List It) : (exportB its).map (·.1) = its.map itemText := by
  induction its with
  | nil => rfl
  | cons it r ih =>
    cases r with
    | nil => rfl
    | cons it2 r => rw [exportB, List.map_cons, ih]; rfl
theorem exportB_snd (its : List It) : ∀ c ∈ exportB its, blankB c.2 = true := by
  induction its with
  | nil => intro c hc; simp [exportB] at hc
  | cons it r ih =>
    cases r with
    | nil => intro c hc; simp only [exportB, List.mem_singleton] at hc; rw [hc]; rfl
    | cons it2 r =>
      intro c hc
      rw [exportB] at hc
      rcases List.mem_cons.1 hc with rfl | hc
      · show blankB (if it2.kind = 2 then 10 else 32) = true
        split <;> rfl
      · exact ih c hc
theorem exportT_B (l : List Int) : exportT l = joinB (exportB (parse l)) := by
  unfold exportT
  by_cases h : parse l = []
  · rw [if_pos h, h]; rfl
  · rw [if_neg h]
    obtain ⟨it, its, e⟩ := List.exists_cons_of_ne_nil h
    rw [e, exportF]
    have := exportF_B its it []
    rw [List.nil_append] at this
    rw [sepL, if_pos rfl, List.nil_append, List.nil_append]
    exact this
theorem digit_noblank : ∀ b : UInt8, Lib.digitVal b ≠ none → blankB b = false := all_bytes (by decide +kernel)
theorem hex_noblank : ∀ b : UInt8, hexS b ≠ none → blankB b = false := all_bytes (by decide +kernel)
theorem letter_noblank : ∀ b : UInt8, 1 ≤ lo b → blankB b = false := all_bytes (by decide +kernel)
theorem decFrom_digits (l : List UInt8) : ∀ (acc : Nat) (v : Nat), Lib.decFrom acc l = some v → ∀ b ∈ l, Lib.digitVal b ≠ none := by
  induction l with
  | nil => intro _ _ _ b hb; simp at hb
  | cons c l ih =>
    intro acc v h b hb
    simp only [Lib.decFrom] at h
    cases hc : Lib.digitVal c with
    | none => rw [hc] at h; simp at h
    | some d =>
      rw [hc] at h
      rcases List.mem_cons.1 hb with rfl | hb
      · rw [hc]; simp
      · exact ih _ _ h b hb
theorem sfold_digits (l : List UInt8) : ∀ (acc : Nat) (v : Nat), sfold acc l = some v → ∀ b ∈ l, hexS b ≠ none := by
  induction l with
  | nil => intro _ _ _ b hb; simp at hb
  | cons c l ih =>
    intro acc v h b hb
    simp only [sfold] at h
    cases hc : hexS c with
    | none => rw [hc] at h; simp at h
    | some d =>
      rw [hc] at h
      rcases List.mem_cons.1 hb with rfl | hb
      · rw [hc]; simp
      · exact ih _ _ h b hb
theorem dec_noblank (u : Nat) : ∀ b ∈ Lib.decDigits u, blankB b = false := fun b hb => digit_noblank b (decFrom_digits _ _ _ (dec_back u) b hb)
theorem hexL_noblank (u : Nat) : ∀ b ∈ Hex.hexL u, blankB b = false := fun b hb => hex_noblank b (sfold_digits _ _ _ (sfold_hexL u) b hb)
theorem itoa_noblank (n : Int) : ∀ b ∈ Lib.itoa n, blankB b = false := by
  intro b hb
  unfold Lib.itoa at hb
  split at hb
  · rcases List.mem_cons.1 hb with rfl | hb
    · rfl
    · exact dec_noblank _ b hb
  · exact dec_noblank _ b hb
theorem mark_noblank (k : Int) : ∀ b ∈ markL k, blankB b = false := by
  intro b hb
  unfold markL at hb
  repeat' split at hb
  all_goals (rw [List.mem_singleton] at hb; subst hb; rfl)
theorem num_noblank (n : Int) (h : Bool) : ∀ b ∈ numL n h, blankB b = false := by
  intro b hb
  unfold numL at hb
  split at hb
  · rcases List.mem_cons.1 hb with rfl | hb
    · rfl
    · exact hexL_noblank _ b hb
  · rcases List.mem_cons.1 hb with rfl | hb
    · rfl
    · exact itoa_noblank _ b hb
theorem name_noblank {l : List UInt8} (h : pack l ≠ []) : ∀ b ∈ l, blankB b = false := by
  intro b hb
  unfold pack at h
  by_cases ho : okName l = true
  · exact letter_noblank b (((okName_iff l).1 ho).2.2 b hb)
  · rw [if_neg ho] at h; exact absurd rfl h
theorem app_noblank {p q : List UInt8} (h1 : ∀ b ∈ p, blankB b = false) (h2 : ∀ b ∈ q, blankB b = false) : ∀ b ∈ p ++ q, blankB b = false := by
  intro b hb
  rcases List.mem_append.1 hb with hb | hb
  · exact h1 b hb
  · exact h2 b hb
theorem text_okW (it : It) (hr : inR it) (hok : cellsOf it ≠ []) : okW (itemText it) := by
  refine ⟨text_ne hr hok, ?_⟩
  have hp : ¬ (it.kind = 7 ∨ it.kind = 8) → ¬ it.kind = 0 → pack it.name ≠ [] := by
    intro h7 h0 e
    apply hok
    unfold cellsOf
    rw [if_neg h0, if_neg (by omega), if_neg (by omega)]
    by_cases h9 : it.kind = 9
    · rw [if_pos h9, if_neg (by rw [e]; simp)]
    · rw [if_neg h9]
      split
      · rw [e]; rfl
      · rfl
  unfold itemText
  rw [if_pos (List.length_pos_iff.2 hok)]
  by_cases h7 : it.kind = 7 ∨ it.kind = 8
  · rw [if_pos h7]
    exact app_noblank (mark_noblank _) (num_noblank _ _)
  · rw [if_neg h7]
    by_cases h9 : it.kind = 9
    · rw [if_pos h9]
      exact app_noblank (app_noblank (mark_noblank _) (name_noblank (hp h7 (by omega)))) (num_noblank it.n false)
    · rw [if_neg h9]
      by_cases h0 : it.kind = 0
      · rw [if_pos h0]
        exact app_noblank (mark_noblank _) (hexL_noblank _)
      · rw [if_neg h0]
        exact app_noblank (mark_noblank _) (name_noblank (hp h7 h0))
theorem export_words (l : List Int) (hr : ∀ x ∈ l, 0 ≤ x ∧ x ≤ 4294967295) : (spotsOf (exportT l)).map (·.1) = (parse l).map itemText := by
  rw [exportT_B, ← exportB_fst]
  refine words_joinB _ (fun c hc => ⟨?_, exportB_snd _ c hc⟩) 0
  have : c.1 ∈ (exportB (parse l)).map (·.1) := List.mem_map.2 ⟨c, hc, rfl⟩
  rw [exportB_fst] at this
  obtain ⟨it, hi, e⟩ := List.mem_map.1 this
  rw [← e]
  have hs := parse_small l hr it hi
  exact text_okW it ⟨hs.1, hs.2.2⟩ (parse_ok l hr it hi)
theorem totalOf_app (a b : List It) : totalOf (a ++ b) = totalOf a + totalOf b := by
  unfold totalOf
  rw [List.flatMap_append, List.length_append]
theorem impF_back (l : List UInt8) (its2 : List It) : ∀ (ws : List (List UInt8 × Nat)) (its : List It) (last : Nat), ws.map (·.1) = its2.map itemText → (∀ it ∈ its2, okIt it) → totalOf (its ++ its2) ≤ 64 → listOk (its ++ its2) = true → impF l its ws last = ((unparse (its ++ its2)).1, 0, 0, 0) := by
  induction its2 with
  | nil =>
    intro ws its last hw _ _ hk
    obtain rfl : ws = [] := List.map_eq_nil_iff.1 hw
    rw [List.append_nil] at hk ⊢
    rw [impF, if_pos hk]
  | cons it its2 ih =>
    intro ws its last hw hok ht hk
    cases ws with
    | nil => simp at hw
    | cons c ws =>
      rw [List.map_cons, List.map_cons] at hw
      obtain ⟨hc, hw⟩ := List.cons.inj hw
      have hi := hok it (by simp)
      have hrd : readR c.1 = (it, true) := by rw [hc]; exact readR_text it ⟨hi.1.1, hi.1.2.2⟩ (List.length_pos_iff.2 hi.2)
      have e : its ++ it :: its2 = (its ++ [it]) ++ its2 := by simp
      rw [e] at ht hk ⊢
      have ht1 : totalOf (its ++ [it]) ≤ 64 := by rw [totalOf_app] at ht; omega
      rw [impF, hrd, if_pos rfl]
      show (if totalOf (its ++ [it]) ≤ 64 then _ else _) = _
      rw [if_pos ht1]
      exact ih ws (its ++ [it]) c.2 hw (fun x hx => hok x (List.mem_cons_of_mem _ hx)) ht hk

/-! ### FnNotes -/
theorem FnNotes : laws_FnNotes.Pure := by
  intro l hl hz hw
  refine Ev.rounds (r := true) ?_
  refine ev_bind (ev_eq (laws_big_eq l)) ?_
  by_cases hs : (l.length : Int) > 1048576
  · exact ev_pos (decide_eq_true hs) (ev_ret rfl)
  refine ev_neg (by simpa using hs) ?_
  obtain ⟨t, e, ht, hr⟩ := spec_DrawExport_ev l (by omega)
  refine ev_bind e (ev_bind (impl_Export_ev t (by omega) hr) ?_)
  by_cases h64 : t.length > 64
  · refine ev_pos (by omega) ?_
    have e0 : exportT t = [] := by
      unfold exportT
      rw [show parse t = [] from if_pos h64, if_pos rfl]
    rw [e0]
    refine Ev.step (fun k => by rw [laws_FnNotes.j0]) ?_
    exact ev_pos rfl (ev_neg (by decide) (ev_ret (by rw [toB_list]; rfl)))
  · refine ev_neg (by omega) ?_
    refine Ev.step (fun k => by rw [laws_FnNotes.j0]) ?_
    rw [toB_size]
    by_cases hb : (((exportT t).length : Nat) : Int) > 6000
    · exact ev_pos (decide_eq_true hb) (ev_pos hb (ev_ret rfl))
    · refine ev_neg (by simpa using hb) ?_
      obtain ⟨C, k, h1, h2, h3⟩ := parse_back t (by omega) hr
      have hlen : C.length + k = t.length := by
        have := congrArg List.length h2
        rw [List.length_append, List.length_replicate] at this
        omega
      have hok : ∀ it ∈ parse t, okIt it := fun it hi => ⟨parse_small t hr it hi, parse_ok t hr it hi⟩
      have hfit := unparse_fits _ hok
      rw [h1] at hfit
      have ht64 : totalOf (parse t) ≤ 64 := of_decide_eq_true hfit.symm
      have hlist : listOk (parse t) = true := by rw [listOk, h1, Bool.true_and, h3, decide_eq_true rfl]
      have hi : importT (exportT t) = (C, 0, 0, 0) := by
        unfold importT
        rw [if_neg (by omega), impF_back _ (parse t) _ [] 0 (export_words t hr) hok ht64 hlist]
        rw [List.nil_append, h1]
      have ei := impl_Import_ev (exportT t) (by omega)
      rw [hi] at ei
      have ef : fill C = fill t := by rw [h2, fill_zeros (by omega)]
      refine ev_bind ei (ev_pos rfl (ev_bind (laws_padded_ev C (by omega)) (ev_bind (laws_padded_ev t (by omega)) ?_)))
      refine ev_bind (laws_sameCells_ev _ _ (by rw [ef, fill_length (by omega)]; omega)) (ev_pos (decide_eq_true ef) ?_)
      exact ev_bind (spec_Export_ev t (by omega) hr) (ev_ret (by simp))

end Go.Proofs.YtfjmpdcflnaogaaGreatDoor.Pure
