/-
The law FnImage holds of the printed plain functions, for all arguments that the printed bounds allow.
-/
import Derived.Test.YtcfihncnendkgaaQFnImagex1
import Derived.Test.YtcfihncnendkgaaQFnImagex2
import Derived.Test.YtcfihncnendkgaaQFnImagex3
import Derived.Test.YtcfihncnendkgaaQFnImagex4
import Derived.Test.YtcfihncnendkgaaQFnImagex5
import Derived.Test.YtcfihncnendkgaaQFnImagex6
import Derived.Test.YtcfihncnendkgaaQFnImagex7
import Derived.Test.YtcfihncnendkgaaQFnImagex8
import Derived.Test.YtcfihncnendkgaaTools
import Derived.Test.YtcfihncnendkgaaLetters
import Derived.Test.YtcfihncnendkgaaHeads
import Derived.Test.YtcfihncnendkgaaSpots
import Derived.Test.YtcfihncnendkgaaNames
import Derived.Test.YtcfihncnendkgaaItems
import Derived.Test.YtcfihncnendkgaaRound
import Derived.Test.YtcfihncnendkgaaDraws
import Derived.Test.YtcfihncnendkgaaCells
import Derived.Test.YtcfihncnendkgaaNums
import Derived.Test.YtcfihncnendkgaaStores
import Derived.Test.YtcfihncnendkgaaXors
import Derived.Test.YtcfihncnendkgaaImages
namespace Go.Proofs.Ytcfihncnendkgaa.Pure
open Go.RowKit Go.Proofs.Ytcfihncnendkgaa.QFnImage Go.Proofs.YtcfihncnendkgaaW.PrintWords Go.Proofs.YtcfihncnendkgaaW.PrintLast Go.Proofs.YtcfihncnendkgaaW.PrintMore Go.Proofs.Ytcfihncnendkgaa.Tools Go.Proofs.Ytcfihncnendkgaa.Plain
set_option linter.unusedVariables false

/-! ### laws_big -/
theorem laws_big_eq (l : List Int) : laws_big.f l = some (decide ((l.length : Int) > 1048576)) := rfl

/-! ### laws_at -/
theorem laws_at_eq (l : List Int) (hl : l.length ≤ 1048576) (hb : ∀ x ∈ l, 0 ≤ x ∧ x ≤ 255) (i : Int) (hi : 0 ≤ i ∧ i ≤ 100) : ∃ v, laws_at.f l i = some v ∧ 0 ≤ v ∧ v ≤ 255 := by
  unfold laws_at.f
  by_cases h : i < (l.length : Int)
  · have := hb (rd l i) (rd_mem hi.1 h)
    rw [if_pos h, if_pos hi.1, w64 (by omega) (by omega)]
    exact ⟨_, rfl, this⟩
  · rw [if_neg h, w64 (x := i * 7) (by omega) (by omega), w64 (x := i * 7 + (l.length : Int)) (by omega) (by omega)]
    have := tmod_range (x := i * 7 + (l.length : Int)) (n := 256) (by omega) (by omega)
    exact ⟨_, rfl, by omega⟩

/-! ### spec_l01New -/
theorem spec_l01New_l0 (l : List Int) (hl : l.length ≤ 1048576) (d : Nat) : ∀ (i : Nat) (h : Int), i + d = l.length → ∃ h', Ev (fun k => spec_l01New.l0 k l h (i : Int)) (l, 0, h') := by
  induction d with
  | zero =>
    intro i h hi
    refine ⟨h, Ev.step (fun k => by rw [spec_l01New.l0]) ?_⟩
    exact ev_neg (by omega) (ev_ret rfl)
  | succ d ih =>
    intro i h hi
    by_cases h4 : (i : Int) < 4000
    · obtain ⟨h', e⟩ := ih (i + 1) (Go.bits .and .i64 (wrap64 ((wrap64 ((wrap64 (h * 131)) + (wrap64 (rd l i)))) + 7)) 1073741823) (by omega)
      refine ⟨h', Ev.step (fun k => by rw [spec_l01New.l0]) ?_⟩
      refine ev_pos (by omega) (ev_pos h4 (ev_pos (by omega) ?_))
      rw [w64 (x := (i : Int) + 1) (by omega) (by omega), show ((i : Int) + 1) = ((i + 1 : Nat) : Int) by omega]
      exact e
    · refine ⟨h, Ev.step (fun k => by rw [spec_l01New.l0]) ?_⟩
      exact ev_pos (by omega) (ev_neg h4 (ev_ret rfl))
theorem spec_l01New_ev (l : List Int) (hl : l.length ≤ 1048576) : ∃ h, Ev (fun k => spec_l01New.f k l) (l, 0, h) := spec_l01New_l0 l hl l.length 0 _ (by omega)

/-! ### spec_l01Byte -/
theorem spec_l01Byte_eq {b : List Int} {i : Int} (h : Int) (hc : Cur b i) : ∃ r i' h', spec_l01Byte.f b i h = some (r, i', h') ∧ 0 ≤ r ∧ r ≤ 255 ∧ Cur b i' := by
  obtain ⟨c0, c1, c2⟩ := hc
  unfold spec_l01Byte.f
  by_cases hlt : i < (b.length : Int)
  · rw [if_pos hlt, if_pos c1]
    have := and_255 (wrap64 ((Go.bits .and .i64 (Go.bits .xor .i64 ((wrap64 ((wrap64 (h * 6364136223846793005)) + 1442695040888963407)) / 8589934592) ((wrap64 ((wrap64 (h * 6364136223846793005)) + 1442695040888963407)) / 35184372088832)) 255) + (wrap64 (rd b i))))
    exact ⟨_, _, _, rfl, this.1, this.2, c0, by rw [w64 (by omega) (by omega)]; omega, by rw [w64 (by omega) (by omega)]; omega⟩
  · rw [if_neg hlt]
    have := and_255 (Go.bits .xor .i64 ((wrap64 ((wrap64 (h * 6364136223846793005)) + 1442695040888963407)) / 8589934592) ((wrap64 ((wrap64 (h * 6364136223846793005)) + 1442695040888963407)) / 35184372088832))
    exact ⟨_, _, _, rfl, this.1, this.2, c0, c1, c2⟩

/-! ### spec_l01Below -/
theorem spec_l01Below_eq {b : List Int} {i : Int} (h n : Int) (hc : Cur b i) (hn : 0 < n) : ∃ r i' h', spec_l01Below.f b i h n = some (r, i', h') ∧ 0 ≤ r ∧ r < n ∧ Cur b i' := by
  unfold spec_l01Below.f
  rw [if_neg (by omega)]
  by_cases h2 : n ≤ 256
  · obtain ⟨r, i1, h1, e, r0, r1, c1⟩ := spec_l01Byte_eq h hc
    have := tmod_range r0 hn
    rw [if_pos h2, e]
    simp only [Option.bind_some]
    rw [if_neg (by omega)]
    exact ⟨_, _, _, rfl, this.1, this.2, c1⟩
  · obtain ⟨x, i1, h1, e1, x0, x1, c1⟩ := spec_l01Byte_eq h hc
    obtain ⟨y, i2, h2', e2, y0, y1, c2⟩ := spec_l01Byte_eq h1 c1
    obtain ⟨z, i3, h3, e3, z0, z1, c3⟩ := spec_l01Byte_eq h2' c2
    obtain ⟨v, i4, h4, e4, v0, v1, c4⟩ := spec_l01Byte_eq h3 c3
    rw [if_neg h2, e1]
    simp only [Option.bind_some]
    rw [e2]
    simp only [Option.bind_some]
    rw [e3]
    simp only [Option.bind_some]
    rw [e4]
    simp only [Option.bind_some]
    rw [if_neg (by omega)]
    have e5 : (wrap64 ((wrap64 ((wrap64 ((wrap64 (x * 16777216)) + (wrap64 (y * 65536)))) + (wrap64 (z * 256)))) + v)) = x * 16777216 + y * 65536 + z * 256 + v := by
      rw [w64 (x := x * 16777216) (by omega) (by omega), w64 (x := y * 65536) (by omega) (by omega), w64 (x := z * 256) (by omega) (by omega), w64 (x := x * 16777216 + y * 65536) (by omega) (by omega), w64 (x := x * 16777216 + y * 65536 + z * 256) (by omega) (by omega), w64 (by omega) (by omega)]
    rw [e5]
    have := tmod_range (x := x * 16777216 + y * 65536 + z * 256 + v) (by omega) hn
    exact ⟨_, _, _, rfl, this.1, this.2, c4⟩

/-! ### spec_l04Num -/
theorem spec_l04Num_eq (n : Int) (hex : Bool) (s l : Int) (hn : -2147483648 ≤ n ∧ n ≤ 2147483647) (hs : 0 ≤ s ∧ s ≤ 15) (hl : 0 ≤ l ∧ l ≤ 15) : spec_l04Num.f n hex s l = some (numCells n hex s l) := by
  unfold spec_l04Num.f numCells bitOf
  cases hex
  · simp only [Bool.false_eq_true, if_false]
    by_cases h : -67108864 ≤ n ∧ n ≤ 67108863
    · rw [if_pos h.1, if_pos h.2, if_pos h]
      congr 2; omega
    · rw [if_neg h]
      have e : (0 + l) % 4294967296 = 0 + l := by omega
      rw [e]
      by_cases h1 : n ≥ -67108864
      · rw [if_pos h1, if_neg (by omega)]
      · rw [if_neg h1]
  · simp only [if_true]
    by_cases h : -67108864 ≤ n ∧ n ≤ 67108863
    · rw [if_pos h.1, if_pos h.2, if_pos h]
      congr 2; omega
    · rw [if_neg h]
      have e : (16 + l) % 4294967296 = 16 + l := by omega
      rw [e]
      by_cases h1 : n ≥ -67108864
      · rw [if_pos h1, if_neg (by omega)]
      · rw [if_neg h1]

/-! ### spec_l01In -/
theorem spec_l01In_eq (a b c : Int) : spec_l01In.f a b c = some (decide (b ≤ a ∧ a ≤ c)) := by
  unfold spec_l01In.f
  by_cases h : b ≤ a
  · rw [if_pos h]; simp [h]
  · rw [if_neg h]; simp [h]

/-! ### spec_LetterOf -/
theorem spec_LetterOf_all : ∀ b : UInt8, spec_LetterOf.f 49 (b.toNat : Int) = some (lo b) := all_bytes (by decide +kernel)
theorem spec_LetterOf_ev (b : UInt8) : Ev (fun k => spec_LetterOf.f k (b.toNat : Int)) (lo b) := Ev.of (spec_LetterOf.mono _) (spec_LetterOf_all b)

/-! ### spec_NameOk -/
theorem spec_NameOk_l0 (s : ByteArray) (hs : s.size ≤ 24) (d : Nat) : ∀ i : Nat, i + d = s.size → Ev (fun k => spec_NameOk.l0 k s (i : Int)) ((s.data.toList.drop i).all (fun b => decide (1 ≤ lo b))) := by
  induction d with
  | zero =>
    intro i hi
    refine Ev.step (fun k => by rw [spec_NameOk.l0]) ?_
    refine ev_neg (by omega) (ev_ret ?_)
    rw [List.drop_of_length_le (by rw [← size_eq]; omega)]; rfl
  | succ d ih =>
    intro i hi
    have hlt : i < s.size := by omega
    refine Ev.step (fun k => by rw [spec_NameOk.l0]) ?_
    refine ev_pos (by omega) (ev_pos (by omega) (ev_bind (by rw [bt_at hlt]; exact spec_LetterOf_ev _) ?_))
    rw [drop_cons hlt, List.all_cons]
    by_cases h : 1 ≤ lo s[i]
    · refine ev_neg (by omega) ?_
      rw [w64 (by omega) (by omega), show ((i : Int) + 1) = ((i + 1 : Nat) : Int) by omega, decide_eq_true h, Bool.true_and]
      exact ih (i + 1) (by omega)
    · refine ev_pos (by omega) (ev_ret ?_)
      rw [decide_eq_false h, Bool.false_and]
theorem spec_NameOk_ev (s : ByteArray) : Ev (fun k => spec_NameOk.f k s) (okName s.data.toList) := by
  refine ev_bind (ev_eq (spec_l01In_eq _ _ _)) ?_
  unfold okName
  rw [← size_eq]
  by_cases h : 1 ≤ (s.size : Int) ∧ (s.size : Int) ≤ 24
  · refine ev_pos (decide_eq_true h) ?_
    rw [decide_eq_true (show 1 ≤ s.size by omega), decide_eq_true (show s.size ≤ 24 by omega), Bool.true_and, Bool.true_and]
    exact spec_NameOk_l0 s (by omega) s.size 0 (by omega)
  · refine ev_neg (by simp only [decide_eq_true_eq]; exact h) (ev_ret ?_)
    by_cases h1 : 1 ≤ s.size
    · rw [decide_eq_false (show ¬ s.size ≤ 24 by omega)]; simp
    · rw [decide_eq_false h1]; simp

/-! ### spec_WidthOf -/
theorem spec_WidthOf_eq (k : Int) : spec_WidthOf.f k = some (widthOf k) := by
  unfold spec_WidthOf.f widthOf
  simp only [spec_l01In_eq, Option.bind_some, decide_eq_true_eq]
  by_cases h1 : 0 ≤ k ∧ k ≤ 7
  · rw [if_pos h1, if_pos h1]
  rw [if_neg h1, if_neg h1]
  by_cases h2 : 8 ≤ k ∧ k ≤ 15
  · rw [if_pos h2, if_pos h2]
  rw [if_neg h2, if_neg h2]
  by_cases h3 : 16 ≤ k ∧ k ≤ 47
  · rw [if_pos h3, if_pos h3]
  rw [if_neg h3, if_neg h3]

/-! ### spec_BitsOf -/
theorem spec_BitsOf_eq (k : Int) : spec_BitsOf.f k = some (bitsOf k) := by
  unfold spec_BitsOf.f
  simp only [spec_WidthOf_eq, Option.bind_some]
  rcases width_cases k with ⟨e1, e2, h⟩ | ⟨e1, e2, h⟩ | ⟨e1, e2, h⟩ | ⟨e1, e2, h⟩ <;> rw [e1, e2] <;> simp
  · omega
  · rw [w64 (by omega) (by omega)]; omega
  · rw [w64 (by omega) (by omega)]; omega

/-! ### spec_l03One -/
theorem spec_l03One_l0 (s : ByteArray) (hs : s.size ≤ 1000000) (hb : ∀ b ∈ s.data.toList, 1 ≤ lo b) (d : Nat) : ∀ (i : Nat) (f left : Int), i + d = s.size → 0 ≤ left → left ≤ 28 → 0 ≤ f → f + 2 ^ left.toNat ≤ 268435456 →
    Ev (fun k => spec_l03One.l0 k s f left (i : Int)) (f + (one (s.data.toList.drop i) left).1, (i : Int) + ((one (s.data.toList.drop i) left).2 : Int)) := by
  induction d with
  | zero =>
    intro i f left hi h0 h1 h2 h3
    have := two_pow_pos left.toNat
    refine Ev.step (fun k => by rw [spec_l03One.l0]) ?_
    refine ev_neg (by omega) (ev_ret ?_)
    rw [List.drop_of_length_le (by rw [← size_eq]; omega), one]
    simp; omega
  | succ d ih =>
    intro i f left hi h0 h1 h2 h3
    have hlt : i < s.size := by omega
    have hp := two_pow_pos left.toNat
    have hl1 := hb s[i] (by rw [getB hlt]; exact List.getElem_mem _)
    have hlr := lo_range s[i]
    have w := width_in (k := lo s[i]) (by omega) (by omega)
    rw [drop_cons hlt, one]
    refine Ev.step (fun k => by rw [spec_l03One.l0]) ?_
    refine ev_pos (by omega) (ev_pos (by omega) (ev_bind (by rw [bt_at hlt]; exact spec_LetterOf_ev _) (ev_bind (ev_eq (spec_WidthOf_eq _)) ?_)))
    by_cases hw : widthOf (lo s[i]) > left
    · rw [if_pos hw]
      refine ev_pos hw (ev_ret ?_)
      simp; omega
    · rw [if_neg hw]
      have e : left.toNat = (widthOf (lo s[i])).toNat + (left - widthOf (lo s[i])).toNat := by omega
      have hq := two_pow_pos (left - widthOf (lo s[i])).toNat
      have hm : (bitsOf (lo s[i]) + 1) * 2 ^ (left - widthOf (lo s[i])).toNat ≤ 2 ^ left.toNat := by
        rw [e, Int.pow_add]; exact Int.mul_le_mul_of_nonneg_right (by omega) (by omega)
      rw [Int.add_mul] at hm
      have hn := Int.mul_nonneg w.2.2.1 (show 0 ≤ (2 : Int) ^ (left - widthOf (lo s[i])).toNat by omega)
      have hb7 := two_pow_le (a := (widthOf (lo s[i])).toNat) (b := 7) (by omega)
      refine ev_neg hw (ev_bind (ev_eq (spec_BitsOf_eq _)) (ev_pos (by rw [w64 (by omega) (by omega), wu64 (by omega) (by omega)]; omega) ?_))
      rw [w64 (x := bitsOf (lo s[i])) (by omega) (by omega), w64 (x := left - widthOf (lo s[i])) (by omega) (by omega), wu64 (by omega) (by omega), shl_i64 w.2.2.1 (by omega) (by omega), w64 (by omega) (by omega), w64 (by omega) (by omega), show ((i : Int) + 1) = ((i + 1 : Nat) : Int) by omega]
      refine ev_to (ih (i + 1) _ _ (by omega) (by omega) (by omega) (by omega) (by omega)) ?_
      simp only [Prod.mk.injEq]
      constructor <;> omega
theorem spec_l03One_ev (l : List UInt8) (hl : l.length ≤ 1000000) (hb : ∀ b ∈ l, 1 ≤ lo b) : Ev (fun k => spec_l03One.f k (toB l)) ((one l 28).1, ((one l 28).2 : Int)) := by
  refine ev_to (spec_l03One_l0 (toB l) (by rw [toB_size]; exact hl) hb l.length 0 0 28 (by rw [toB_size]; omega) (by omega) (by omega) (by omega) (by decide)) ?_
  rw [toB_data]; simp

/-! ### spec_Pack -/
theorem spec_Pack_l0 (n : Nat) : ∀ (l : List UInt8) (out : List Int), l.length ≤ n → n ≤ 1000000 → (∀ b ∈ l, 1 ≤ lo b) → out.length + l.length ≤ 1000000 → Ev (fun k => spec_Pack.l0 k (toB l) out) (out ++ packF l.length l) := by
  induction n with
  | zero =>
    intro l out hl hn hb ho
    have : l = [] := List.eq_nil_of_length_eq_zero (by omega)
    subst this
    refine Ev.step (fun k => by rw [spec_Pack.l0]) ?_
    exact ev_pos (by rw [ba_toList]; rfl) (ev_ret (by simp [packF]))
  | succ n ih =>
    intro l out hl hn hb ho
    by_cases h : l = []
    · subst h
      refine Ev.step (fun k => by rw [spec_Pack.l0]) ?_
      exact ev_pos (by rw [ba_toList]; rfl) (ev_ret (by simp [packF]))
    · have h1 := one_pos h (left := 28) (by omega)
      have h2 := one_range l 28 (by omega) (by omega) hb
      refine Ev.step (fun k => by rw [spec_Pack.l0]) ?_
      refine ev_neg (by rw [ba_toList, toB_data]; exact h) (ev_bind (spec_l03One_ev l (by omega) hb) (ev_pos (by omega) (ev_pos (by simp only; omega) (ev_pos (by rw [toB_size]; simp only; omega) ?_))))
      rw [packF_step h, extract_eq, toB_data, toB_size, List.take_of_length_le (by omega)]
      simp only [Int.toNat_natCast]
      refine ev_to (ih (l.drop (one l 28).2) (out ++ [(one l 28).1]) (by rw [List.length_drop]; omega) (by omega) (fun b hb' => hb b (List.mem_of_mem_drop hb')) (by simp only [List.length_append, List.length_drop, List.length_cons, List.length_nil]; omega)) ?_
      simp
theorem spec_Pack_ev (l : List UInt8) : Ev (fun k => spec_Pack.f k (toB l)) (pack l) := by
  refine ev_some (ev_bind (spec_NameOk_ev _) ?_)
  rw [toB_data]
  unfold pack
  by_cases h : okName l = true
  · rw [if_pos h]
    obtain ⟨h1, h2, h3⟩ := (okName_iff l).1 h
    exact ev_pos h (spec_Pack_l0 l.length l [] (by omega) (by omega) h3 (by simp; omega))
  · rw [if_neg h]
    exact ev_neg h (ev_ret rfl)

/-! ### spec_l04Word -/
theorem spec_l04Word_l0 (t : Int) (ht : 0 ≤ t ∧ t ≤ 15) (fs : List Int) (hf : ∀ f ∈ fs, 0 ≤ f ∧ f < 268435456) (hl : fs.length ≤ 24) (d : Nat) : ∀ i : Nat, i + d = fs.length →
    Ev (fun k => spec_l04Word.l0 k t ((word t fs).take i ++ fs.drop i) (i : Int)) (word t fs) := by
  induction d with
  | zero =>
    intro i hi
    refine Ev.step (fun k => by rw [spec_l04Word.l0]) ?_
    have hw := word_length t fs
    refine ev_neg (by rw [List.length_append, List.length_take, List.length_drop]; omega) (ev_ret ?_)
    rw [List.take_of_length_le (by omega), List.drop_of_length_le (by omega), List.append_nil]
  | succ d ih =>
    intro i hi
    have hw := word_length t fs
    have hlt : i < fs.length := by omega
    have hfi := hf fs[i] (List.getElem_mem _)
    have hti : i = ((word t fs).take i).length := by rw [List.length_take]; omega
    have hg := word_getElem t fs i hlt
    refine Ev.step (fun k => by rw [spec_l04Word.l0]) ?_
    refine ev_pos (by rw [List.length_append, List.length_take, List.length_drop]; omega) (ev_pos (by omega) (ev_some ?_))
    rw [List.drop_eq_getElem_cons hlt, rd_mid hti]
    simp only [Int.toNat_natCast]
    rw [set_mid hti, w64 (by omega) (by omega), show ((i : Int) + 1) = ((i + 1 : Nat) : Int) by omega]
    have next := ih (i + 1) (by omega)
    rw [List.take_succ_eq_append_getElem (by rw [hw]; exact hlt), hg, List.append_assoc, List.singleton_append] at next
    by_cases h0 : i = 0
    · refine ev_pos (by omega) ?_
      rw [rd_mid hti, set_mid hti]
      rw [if_pos h0] at next
      rw [show (fs[i] * 16 % 4294967296 + t) % 4294967296 = fs[i] * 16 + t by omega]
      exact next
    · refine ev_neg (by omega) ?_
      rw [if_neg h0] at next
      rw [show fs[i] * 16 % 4294967296 = fs[i] * 16 by omega]
      exact next
theorem spec_l04Word_ev (t : Int) (ht : 0 ≤ t ∧ t ≤ 15) (l : List UInt8) : Ev (fun k => spec_l04Word.f k t (toB l)) (word t (pack l)) := by
  refine ev_bind (spec_Pack_ev l) ?_
  have := spec_l04Word_l0 t ht (pack l) (fun f hf => (pack_fields f hf).2) (pack_length l) (pack l).length 0 (Nat.zero_add _)
  simpa using this

/-! ### spec_l04Tag -/
theorem spec_l04Tag_eq (k : Int) : spec_l04Tag.f k = some (tagOf k) := by
  unfold spec_l04Tag.f tagOf
  repeat' split
  all_goals rfl

/-! ### spec_CellsOf -/
theorem spec_CellsOf_j0 (it : It) (hn : -2147483648 ≤ it.n ∧ it.n ≤ 2147483647) (b : Bool) (hb : b = true ↔ (it.n = 0 ∧ it.hex = false ∧ it.raw = 0)) : Ev (fun k => spec_CellsOf.j0 k b it.kind (toB it.name) it.n it.hex it.raw) (cellsOf it) := by
  obtain ⟨kind, name, n, hex, raw⟩ := it
  simp only at hn hb ⊢
  refine Ev.step (fun k => by rw [spec_CellsOf.j0]) ?_
  by_cases k0 : kind = 0
  · refine ev_pos k0 ?_
    have e : cellsOf ⟨kind, name, n, hex, raw⟩ = if name = [] ∧ n = 0 ∧ hex = false then [raw] else [] := by unfold cellsOf; simp only; rw [if_pos k0]
    rw [e]
    by_cases h1 : name = []
    · refine ev_pos ((toB_nil_iff name).2 h1) ?_
      by_cases h2 : n = 0
      · refine ev_pos h2 ?_
        cases hex with
        | true => exact ev_pos rfl (ev_ret (if_neg (fun h => Bool.noConfusion h.2.2)).symm)
        | false => exact ev_neg (by simp) (ev_ret (if_pos ⟨h1, h2, rfl⟩).symm)
      · exact ev_neg h2 (ev_ret (if_neg (fun h => h2 h.2.1)).symm)
    · exact ev_neg (fun h => h1 ((toB_nil_iff name).1 h)) (ev_ret (if_neg (fun h => h1 h.1)).symm)
  refine ev_neg k0 ?_
  by_cases k7 : kind = 7
  · refine ev_pos k7 ?_
    have e : cellsOf ⟨kind, name, n, hex, raw⟩ = if name = [] ∧ raw = 0 then numCells n hex 8 2 else [] := by unfold cellsOf; simp only; rw [if_neg k0, if_pos k7]
    rw [e]
    by_cases h1 : name = []
    · refine ev_pos ((toB_nil_iff name).2 h1) ?_
      by_cases h2 : raw = 0
      · exact ev_pos h2 (ev_bind (ev_eq (spec_l04Num_eq n hex 8 2 hn (by omega) (by omega))) (ev_ret (if_pos ⟨h1, h2⟩).symm))
      · exact ev_neg h2 (ev_ret (if_neg (fun h => h2 h.2)).symm)
    · exact ev_neg (fun h => h1 ((toB_nil_iff name).1 h)) (ev_ret (if_neg (fun h => h1 h.1)).symm)
  refine ev_neg k7 ?_
  by_cases k8 : kind = 8
  · refine ev_pos k8 ?_
    have e : cellsOf ⟨kind, name, n, hex, raw⟩ = if name = [] ∧ raw = 0 then numCells n hex 6 5 else [] := by unfold cellsOf; simp only; rw [if_neg k0, if_neg k7, if_pos k8]
    rw [e]
    by_cases h1 : name = []
    · refine ev_pos ((toB_nil_iff name).2 h1) ?_
      by_cases h2 : raw = 0
      · exact ev_pos h2 (ev_bind (ev_eq (spec_l04Num_eq n hex 6 5 hn (by omega) (by omega))) (ev_ret (if_pos ⟨h1, h2⟩).symm))
      · exact ev_neg h2 (ev_ret (if_neg (fun h => h2 h.2)).symm)
    · exact ev_neg (fun h => h1 ((toB_nil_iff name).1 h)) (ev_ret (if_neg (fun h => h1 h.1)).symm)
  refine ev_neg k8 ?_
  by_cases k9 : kind = 9
  · have hp := pack_length name
    have hwl := word_length 12 (pack name)
    have e : cellsOf ⟨kind, name, n, hex, raw⟩ = if hex = false ∧ raw = 0 ∧ (pack name).length = 1 then word 12 (pack name) ++ [n % 4294967296] else [] := by unfold cellsOf; simp only; rw [if_neg k0, if_neg k7, if_neg k8, if_pos k9]
    rw [e]
    refine ev_pos k9 (ev_bind (spec_l04Word_ev 12 (by omega) name) ?_)
    by_cases h1 : (pack name).length = 1
    · refine ev_pos (by omega) ?_
      cases hex with
      | true => exact ev_pos rfl (ev_ret (if_neg (fun h => Bool.noConfusion h.1)).symm)
      | false =>
        refine ev_neg (by simp) ?_
        by_cases h2 : raw = 0
        · exact ev_pos h2 (ev_pos (by omega) (ev_ret (if_pos ⟨rfl, h2, h1⟩).symm))
        · exact ev_neg h2 (ev_ret (if_neg (fun h => h2 h.2.1)).symm)
    · exact ev_neg (by omega) (ev_ret (if_neg (fun h => h1 h.2.2)).symm)
  have e : cellsOf ⟨kind, name, n, hex, raw⟩ = if 0 < tagOf kind ∧ n = 0 ∧ hex = false ∧ raw = 0 then word (tagOf kind) (pack name) else [] := by unfold cellsOf; simp only; rw [if_neg k0, if_neg k7, if_neg k8, if_neg k9]
  rw [e]
  refine ev_neg k9 (ev_bind (ev_eq (spec_l04Tag_eq kind)) ?_)
  have ht := tagOf_range kind
  by_cases hp : 0 < tagOf kind
  · refine ev_pos hp ?_
    by_cases hq : n = 0 ∧ hex = false ∧ raw = 0
    · exact ev_pos (hb.2 hq) (ev_bind (spec_l04Word_ev _ (by omega) name) (ev_ret (if_pos ⟨hp, hq⟩).symm))
    · exact ev_neg (fun h => hq (hb.1 h)) (ev_ret (if_neg (fun h => hq h.2)).symm)
  · exact ev_neg hp (ev_ret (if_neg (fun h => hp h.1)).symm)
theorem spec_CellsOf_ev (it : It) (hn : -2147483648 ≤ it.n ∧ it.n ≤ 2147483647) : Ev (fun k => spec_CellsOf.f k it.kind (toB it.name) it.n it.hex it.raw) (cellsOf it) := by
  unfold spec_CellsOf.f
  by_cases h1 : it.n = 0
  · refine ev_pos h1 ?_
    cases h2 : it.hex with
    | true =>
      refine ev_pos rfl ?_
      rw [← h2]
      exact spec_CellsOf_j0 it hn _ (by simp [h2])
    | false =>
      refine ev_neg (by simp) ?_
      rw [← h2]
      exact spec_CellsOf_j0 it hn _ (by simp [h1, h2])
  · exact ev_neg h1 (spec_CellsOf_j0 it hn _ (by simp [h1]))

/-! ### spec_l01Pick -/
theorem spec_l01Pick_eq {b : List Int} {i : Int} (h : Int) (l : List ByteArray) (hc : Cur b i) (hn : 0 < l.length) : ∃ r i' h', spec_l01Pick.f b i h l = some (r, i', h') ∧ r ∈ l ∧ Cur b i' := by
  obtain ⟨r, i', h', e, r0, r1, c⟩ := spec_l01Below_eq h (l.length : Int) hc (by omega)
  unfold spec_l01Pick.f
  rw [e]
  simp only [Option.bind_some]
  rw [if_pos r0, if_pos r1]
  exact ⟨_, _, _, rfl, rdOf_mem r0 r1, c⟩

/-! ### spec_LetterAt -/
theorem spec_LetterAt_eq (k : Int) : spec_LetterAt.f k = some (if 0 ≤ k ∧ k ≤ 47 then bt lettersB k else 0) := by
  unfold spec_LetterAt.f spec_l02All.f
  simp only [spec_l01In_eq, Option.bind_some, decide_eq_true_eq]
  by_cases h : 0 ≤ k ∧ k ≤ 47
  · rw [if_pos h, if_pos h, if_pos h.1, if_pos (by show k < 48; omega)]; rfl
  · rw [if_neg h, if_neg h]

/-! ### spec_l01Once -/
theorem spec_l01Once_eq {b : List Int} {i : Int} (h n : Int) (hc : Cur b i) (hn : 0 < n) : ∃ r i' h', spec_l01Once.f b i h n = some (r, i', h') ∧ Cur b i' := by
  obtain ⟨r, i', h', e, _, _, c⟩ := spec_l01Below_eq h n hc hn
  unfold spec_l01Once.f
  rw [e]
  exact ⟨_, _, _, rfl, c⟩

/-! ### spec_l02Name -/
theorem spec_l02Name_l0 {b : List Int} (n d : Nat) (hn : n ≤ 9) : ∀ (j : Nat) (acc : List UInt8) (i h : Int), j + d = n → acc.length = j → (∀ c ∈ acc, 1 ≤ lo c) → Cur b i →
    ∃ nm i' h', Ev (fun k => spec_l02Name.l0 k (acc.map (fun b => (b.toNat : Int))) (n : Int) (j : Int) b i h) (toB nm, i', h') ∧ nm.length = n ∧ (∀ c ∈ nm, 1 ≤ lo c) ∧ Cur b i' := by
  induction d with
  | zero =>
    intro j acc i h hj ha hl hc
    refine ⟨acc, i, h, Ev.step (fun k => by rw [spec_l02Name.l0]) ?_, by omega, hl, hc⟩
    exact ev_neg (by omega) (ev_ret (by rw [strOf_map]))
  | succ d ih =>
    intro j acc i h hj ha hl hc
    obtain ⟨r, i1, h1, e, r0, r1, c1⟩ := spec_l01Below_eq h 47 hc (by omega)
    obtain ⟨nm, i', h', ev, q1, q2, q3⟩ := ih (j + 1) (acc ++ [letter (1 + r)]) i1 h1 (by omega) (by simp; omega) (by
      intro c hc'
      rcases List.mem_append.1 hc' with hc' | hc'
      · exact hl c hc'
      · rw [List.mem_singleton] at hc'
        rw [hc', lo_letter (by omega) (by omega)]; omega) c1
    refine ⟨nm, i', h', Ev.step (fun k => by rw [spec_l02Name.l0]) ?_, q1, q2, q3⟩
    refine ev_pos (by omega) (ev_bind (ev_eq e) (ev_bind (ev_eq (spec_LetterAt_eq _)) (ev_pos (by simp; omega) ?_)))
    simp only
    rw [w64 (x := 1 + r) (by omega) (by omega), if_pos (by omega), bt_letter (by omega) (by omega), map_snoc, w64 (x := (j : Int) + 1) (by omega) (by omega), show ((j : Int) + 1) = ((j + 1 : Nat) : Int) by omega]
    exact ev
theorem spec_l02Name_ev {b : List Int} {i : Int} (h : Int) (hc : Cur b i) : ∃ nm i' h', Ev (fun k => spec_l02Name.f k b i h) (toB nm, i', h') ∧ okName nm = true ∧ nm.length ≤ 9 ∧ Cur b i' := by
  obtain ⟨r, i1, h1, e1, c1⟩ := spec_l01Once_eq h 2 hc (by omega)
  cases r with
  | true =>
    obtain ⟨s, i2, h2, e2, m2, c2⟩ := spec_l01Pick_eq h1 (([(⟨#[100, 117, 112]⟩ : ByteArray), (⟨#[111, 118, 101, 114]⟩ : ByteArray), (⟨#[115, 113, 117, 97, 114, 101]⟩ : ByteArray), (⟨#[97, 33]⟩ : ByteArray), (⟨#[50, 42]⟩ : ByteArray), (⟨#[103, 111]⟩ : ByteArray), (⟨#[45, 105, 102]⟩ : ByteArray), (⟨#[59]⟩ : ByteArray), (⟨#[63]⟩ : ByteArray), (⟨#[114, 114, 114, 114, 114, 114, 114]⟩ : ByteArray), (⟨#[114, 116, 111, 101, 97, 110, 105]⟩ : ByteArray), (⟨#[119, 119, 119, 119, 119, 119]⟩ : ByteArray), (⟨#[113, 113, 113, 113, 113]⟩ : ByteArray), (⟨#[120]⟩ : ByteArray)] : List ByteArray)) c1 (by decide)
    have hall : (([(⟨#[100, 117, 112]⟩ : ByteArray), (⟨#[111, 118, 101, 114]⟩ : ByteArray), (⟨#[115, 113, 117, 97, 114, 101]⟩ : ByteArray), (⟨#[97, 33]⟩ : ByteArray), (⟨#[50, 42]⟩ : ByteArray), (⟨#[103, 111]⟩ : ByteArray), (⟨#[45, 105, 102]⟩ : ByteArray), (⟨#[59]⟩ : ByteArray), (⟨#[63]⟩ : ByteArray), (⟨#[114, 114, 114, 114, 114, 114, 114]⟩ : ByteArray), (⟨#[114, 116, 111, 101, 97, 110, 105]⟩ : ByteArray), (⟨#[119, 119, 119, 119, 119, 119]⟩ : ByteArray), (⟨#[113, 113, 113, 113, 113]⟩ : ByteArray), (⟨#[120]⟩ : ByteArray)] : List ByteArray)).all (fun s => okName s.data.toList && decide (s.data.toList.length ≤ 9)) = true := by decide +kernel
    have hs := List.all_eq_true.1 hall s m2
    rw [Bool.and_eq_true, decide_eq_true_eq] at hs
    refine ⟨s.data.toList, i2, h2, ?_, hs.1, hs.2, c2⟩
    exact ev_bind (ev_eq e1) (ev_pos rfl (ev_bind (ev_eq e2) (ev_ret (by rw [toB_self]))))
  | false =>
    obtain ⟨r, i2, h2, e2, r0, r1, c2⟩ := spec_l01Below_eq h1 9 c1 (by omega)
    obtain ⟨nm, i3, h3, e3, q1, q2, q3⟩ := spec_l02Name_l0 (b := b) (1 + r).toNat (1 + r).toNat (by omega) 0 [] i2 h2 (by omega) rfl (by simp) c2
    refine ⟨nm, i3, h3, ?_, (okName_iff nm).2 ⟨by omega, by omega, q2⟩, by omega, q3⟩
    refine ev_bind (ev_eq e1) (ev_neg (by simp) (ev_bind (ev_eq e2) ?_))
    simp only
    rw [w64 (x := 1 + r) (by omega) (by omega), show (1 + r : Int) = (((1 + r).toNat : Nat) : Int) by omega]
    exact e3

/-! ### spec_l01PickInt -/
theorem spec_l01PickInt_eq {b : List Int} {i : Int} (h : Int) (l : List Int) (hc : Cur b i) (hn : 0 < l.length) : ∃ r i' h', spec_l01PickInt.f b i h l = some (r, i', h') ∧ r ∈ l ∧ Cur b i' := by
  obtain ⟨r, i', h', e, r0, r1, c⟩ := spec_l01Below_eq h (l.length : Int) hc (by omega)
  unfold spec_l01PickInt.f
  rw [e]
  simp only [Option.bind_some]
  rw [if_pos r0, if_pos r1]
  exact ⟨_, _, _, rfl, rd_mem r0 r1, c⟩

/-! ### spec_l04Int -/
theorem spec_l04Int_eq {b : List Int} {i : Int} (h : Int) (hc : Cur b i) : ∃ r i' h', spec_l04Int.f b i h = some (r, i', h') ∧ (-2147483648 ≤ r ∧ r ≤ 2147483647) ∧ Cur b i' := by
  obtain ⟨o, i1, h1, e1, c1⟩ := spec_l01Once_eq h 2 hc (by omega)
  unfold spec_l04Int.f
  rw [e1]
  simp only [Option.bind_some]
  cases o with
  | true =>
    obtain ⟨r, i2, h2, e2, r0, r1, c2⟩ := spec_l01Below_eq h1 200 c1 (by omega)
    rw [if_pos rfl, e2]
    exact ⟨_, _, _, rfl, w32_range _, c2⟩
  | false =>
    obtain ⟨r, i2, h2, e2, m2, c2⟩ := spec_l01PickInt_eq h1 (([0, 67108863, 67108864, (-67108864), (-67108865), 2147483647, (-2147483648), 1000000, (-1)] : List Int)) c1 (by decide)
    rw [if_neg (by simp), e2]
    exact ⟨_, _, _, rfl, w32_range _, c2⟩

/-! ### spec_l04Some -/
theorem spec_l04Some_ev {b : List Int} {i : Int} (h : Int) (hc : Cur b i) : ∃ (it : It) (i' h' : Int), Ev (fun k => spec_l04Some.f k b i h) (it.kind, toB it.name, it.n, it.hex, it.raw, i', h') ∧ (-2147483648 ≤ it.n ∧ it.n ≤ 2147483647) ∧ it.raw = 0 ∧ it.name.length ≤ 9 ∧ Cur b i' := by
  obtain ⟨q, i1, h1, e1, q0, q1, c1⟩ := spec_l01Below_eq h 8 hc (by omega)
  by_cases g0 : q = 0
  · obtain ⟨n, i2, h2, e2, hn, c2⟩ := spec_l04Int_eq h1 c1
    obtain ⟨o, i3, h3, e3, c3⟩ := spec_l01Once_eq h2 3 c2 (by omega)
    exact ⟨⟨7, [], n, o, 0⟩, i3, h3, ev_bind (ev_eq e1) (ev_pos g0 (ev_bind (ev_eq e2) (ev_bind (ev_eq e3) (ev_ret rfl)))), hn, rfl, by simp, c3⟩
  by_cases g1 : q = 1
  · obtain ⟨n, i2, h2, e2, hn, c2⟩ := spec_l04Int_eq h1 c1
    obtain ⟨o, i3, h3, e3, c3⟩ := spec_l01Once_eq h2 3 c2 (by omega)
    exact ⟨⟨8, [], n, o, 0⟩, i3, h3, ev_bind (ev_eq e1) (ev_neg g0 (ev_pos g1 (ev_bind (ev_eq e2) (ev_bind (ev_eq e3) (ev_ret rfl))))), hn, rfl, by simp, c3⟩
  by_cases g2 : q = 2
  · obtain ⟨s, i2, h2, e2, m2, c2⟩ := spec_l01Pick_eq h1 (([(⟨#[120]⟩ : ByteArray), (⟨#[97, 116]⟩ : ByteArray), (⟨#[113, 113, 113, 113]⟩ : ByteArray), (⟨#[116, 101, 110]⟩ : ByteArray)] : List ByteArray)) c1 (by decide)
    obtain ⟨n, i3, h3, e3, hn, c3⟩ := spec_l04Int_eq h2 c2
    have hall : (([(⟨#[120]⟩ : ByteArray), (⟨#[97, 116]⟩ : ByteArray), (⟨#[113, 113, 113, 113]⟩ : ByteArray), (⟨#[116, 101, 110]⟩ : ByteArray)] : List ByteArray)).all (fun s => decide (s.data.toList.length ≤ 9)) = true := by decide +kernel
    have hs := List.all_eq_true.1 hall s m2
    exact ⟨⟨9, s.data.toList, n, false, 0⟩, i3, h3, ev_bind (ev_eq e1) (ev_neg g0 (ev_neg g1 (ev_pos g2 (ev_bind (ev_eq e2) (ev_bind (ev_eq e3) (ev_ret (by simp only; rw [toB_self]))))))), hn, rfl, by simpa using hs, c3⟩
  · obtain ⟨t, i2, h2, e2, t0, t1, c2⟩ := spec_l01Below_eq h1 6 c1 (by omega)
    obtain ⟨nm, i3, h3, e3, o3, l3, c3⟩ := spec_l02Name_ev (b := b) h2 c2
    exact ⟨⟨wrap64 (1 + t), nm, 0, false, 0⟩, i3, h3, ev_bind (ev_eq e1) (ev_neg g0 (ev_neg g1 (ev_neg g2 (ev_bind (ev_eq e2) (ev_bind e3 (ev_ret rfl)))))), by simp, rfl, l3, c3⟩

/-! ### spec_l01Word -/
theorem spec_l01Word_eq {b : List Int} {i : Int} (h : Int) (hc : Cur b i) : ∃ r i' h', spec_l01Word.f b i h = some (r, i', h') ∧ (0 ≤ r ∧ r ≤ 4294967295) ∧ Cur b i' := by
  obtain ⟨q, i1, h1, e1, q0, q1, c1⟩ := spec_l01Below_eq h 4 hc (by omega)
  unfold spec_l01Word.f
  rw [e1]
  simp only [Option.bind_some]
  by_cases g0 : q = 0
  · obtain ⟨r, i2, h2, e2, m2, c2⟩ := spec_l01PickInt_eq h1 (([0, 1, 2, 31, 32, 255, 256, 2147483647, 2147483648, 4294967295, 4294967294] : List Int)) c1 (by decide)
    rw [if_pos g0, e2]
    exact ⟨_, _, _, rfl, by simp only; omega, c2⟩
  by_cases g1 : q = 1
  · obtain ⟨r, i2, h2, e2, r0, r1, c2⟩ := spec_l01Below_eq h1 300 c1 (by omega)
    rw [if_neg g0, if_pos g1, e2]
    exact ⟨_, _, _, rfl, by simp only; omega, c2⟩
  · obtain ⟨r, i2, h2, e2, r0, r1, c2⟩ := spec_l01Below_eq h1 65536 c1 (by omega)
    obtain ⟨s, i3, h3, e3, s0, s1, c3⟩ := spec_l01Below_eq h2 65536 c2 (by omega)
    rw [if_neg g0, if_neg g1, e2]
    simp only [Option.bind_some]
    rw [e3]
    exact ⟨_, _, _, rfl, by simp only; omega, c3⟩

/-! ### spec_l04Cells -/
theorem w64_succ {j : Nat} (h : j ≤ 1000000) : wrap64 ((j : Int) + 1) = ((j + 1 : Nat) : Int) := by rw [w64 (by omega) (by omega)]; omega
theorem spec_l04Cells_l0 {b : List Int} (n d : Nat) (hn : n ≤ 13) : ∀ (j : Nat) (acc : List Int) (i h : Int), j + d = n → acc.length ≤ 26 * j → (∀ x ∈ acc, 0 ≤ x ∧ x ≤ 4294967295) → Cur b i →
    ∃ r i' h', Ev (fun k => spec_l04Cells.l0 k acc (n : Int) (j : Int) b i h) (r, i', h') ∧ r.length ≤ 338 ∧ (∀ x ∈ r, 0 ≤ x ∧ x ≤ 4294967295) ∧ Cur b i' := by
  induction d with
  | zero =>
    intro j acc i h hj ha hr hc
    by_cases h64 : (acc.length : Int) > 64
    · obtain ⟨o, i1, h1, e, c1⟩ := spec_l01Once_eq h 6 hc (by omega)
      cases o with
      | true =>
        refine ⟨acc, i1, h1, Ev.step (fun k => by rw [spec_l04Cells.l0]) ?_, by omega, hr, c1⟩
        exact ev_neg (by omega) (ev_pos h64 (ev_bind (ev_eq e) (ev_pos rfl (ev_ret rfl))))
      | false =>
        refine ⟨acc.take 64, i1, h1, Ev.step (fun k => by rw [spec_l04Cells.l0]) ?_, by rw [List.length_take]; omega, fun x hx => hr x (List.mem_of_mem_take hx), c1⟩
        exact ev_neg (by omega) (ev_pos h64 (ev_bind (ev_eq e) (ev_neg (by simp) (ev_pos (by omega) (ev_ret rfl)))))
    · refine ⟨acc, i, h, Ev.step (fun k => by rw [spec_l04Cells.l0]) ?_, by omega, hr, hc⟩
      exact ev_neg (by omega) (ev_neg h64 (ev_ret rfl))
  | succ d ih =>
    intro j acc i h hj ha hr hc
    obtain ⟨it, i1, h1, e1, hn1, hraw, hnm, c1⟩ := spec_l04Some_ev h hc
    have ec := spec_CellsOf_ev it hn1
    have hlen := cellsOf_length it
    have hrng := cellsOf_range it (by omega)
    obtain ⟨q, i2, h2, e2, q0, q1, c2⟩ := spec_l01Below_eq h1 9 c1 (by omega)
    have hall : ∀ x ∈ acc ++ cellsOf it, 0 ≤ x ∧ x ≤ 4294967295 := fun x hx => (List.mem_append.1 hx).elim (hr x) (hrng x)
    have hsz : (acc ++ cellsOf it).length ≤ 26 * j + 25 := by rw [List.length_append]; omega
    have hj6 : j ≤ 1000000 := by omega
    have more : ∀ (v i' h' : Int), 0 ≤ v ∧ v ≤ 4294967295 → Cur b i' → ∃ r i'' h'', Ev (fun k => spec_l04Cells.l0 k ((acc ++ cellsOf it) ++ [v]) (n : Int) (wrap64 ((j : Int) + 1)) b i' h') (r, i'', h'') ∧ r.length ≤ 338 ∧ (∀ x ∈ r, 0 ≤ x ∧ x ≤ 4294967295) ∧ Cur b i'' := by
      intro v i' h' hv hc'
      rw [w64_succ hj6]
      refine ih (j + 1) _ i' h' (by omega) (by rw [List.length_append, List.length_singleton]; omega) (fun x hx => ?_) hc'
      rcases List.mem_append.1 hx with hx | hx
      · exact hall x hx
      · rw [List.mem_singleton] at hx; rw [hx]; exact hv
    by_cases g0 : q = 0
    · obtain ⟨v, i3, h3, e3, hv, c3⟩ := spec_l01Word_eq h2 c2
      obtain ⟨r, i', h', e, p⟩ := more v i3 h3 hv c3
      refine ⟨r, i', h', Ev.step (fun k => by rw [spec_l04Cells.l0]) ?_, p⟩
      exact ev_pos (by omega) (ev_bind e1 (ev_bind ec (ev_pos (by omega) (ev_some (ev_bind (ev_eq e2) (ev_pos g0 (ev_bind (ev_eq e3) (ev_pos (by omega) e))))))))
    by_cases g1 : q = 1
    · obtain ⟨r, i', h', e, p⟩ := more 0 i2 h2 (by omega) c2
      refine ⟨r, i', h', Ev.step (fun k => by rw [spec_l04Cells.l0]) ?_, p⟩
      exact ev_pos (by omega) (ev_bind e1 (ev_bind ec (ev_pos (by omega) (ev_some (ev_bind (ev_eq e2) (ev_neg g0 (ev_pos g1 (ev_pos (by omega) e))))))))
    by_cases g2 : q = 2
    · obtain ⟨v, i3, h3, e3, v0, v1, c3⟩ := spec_l01Below_eq h2 4096 c2 (by omega)
      obtain ⟨r, i', h', e, p⟩ := more ((v % 4294967296 * 16) % 4294967296) i3 h3 (by omega) c3
      refine ⟨r, i', h', Ev.step (fun k => by rw [spec_l04Cells.l0]) ?_, p⟩
      exact ev_pos (by omega) (ev_bind e1 (ev_bind ec (ev_pos (by omega) (ev_some (ev_bind (ev_eq e2) (ev_neg g0 (ev_neg g1 (ev_pos g2 (ev_bind (ev_eq e3) (ev_pos (by omega) e))))))))))
    by_cases g3 : q = 3
    · obtain ⟨v, i3, h3, e3, m3, c3⟩ := spec_l01PickInt_eq h2 (([2, 18, 5, 34, 12] : List Int)) c2 (by decide)
      obtain ⟨r, i', h', e, p⟩ := more (v % 4294967296) i3 h3 (by omega) c3
      refine ⟨r, i', h', Ev.step (fun k => by rw [spec_l04Cells.l0]) ?_, p⟩
      exact ev_pos (by omega) (ev_bind e1 (ev_bind ec (ev_pos (by omega) (ev_some (ev_bind (ev_eq e2) (ev_neg g0 (ev_neg g1 (ev_neg g2 (ev_pos g3 (ev_bind (ev_eq e3) (ev_pos (by omega) e)))))))))))
    · obtain ⟨r, i', h', e, p⟩ := ih (j + 1) (acc ++ cellsOf it) i2 h2 (by omega) (by omega) hall c2
      rw [← w64_succ hj6] at e
      refine ⟨r, i', h', Ev.step (fun k => by rw [spec_l04Cells.l0]) ?_, p⟩
      exact ev_pos (by omega) (ev_bind e1 (ev_bind ec (ev_pos (by omega) (ev_some (ev_bind (ev_eq e2) (ev_neg g0 (ev_neg g1 (ev_neg g2 (ev_neg g3 e)))))))))
theorem spec_l04Cells_ev {b : List Int} {i : Int} (h : Int) (hc : Cur b i) : ∃ r i' h', Ev (fun k => spec_l04Cells.f k b i h) (r, i', h') ∧ r.length ≤ 338 ∧ (∀ x ∈ r, 0 ≤ x ∧ x ≤ 4294967295) ∧ Cur b i' := by
  obtain ⟨n, i1, h1, e1, n0, n1, c1⟩ := spec_l01Below_eq h 14 hc (by omega)
  obtain ⟨r, i', h', e, p⟩ := spec_l04Cells_l0 (b := b) n.toNat n.toNat (by omega) 0 [] i1 h1 (by omega) (by simp) (by simp) c1
  rw [show ((n.toNat : Nat) : Int) = n by omega] at e
  exact ⟨r, i', h', ev_bind (ev_eq e1) e, p⟩

/-! ### spec_NewStore -/
theorem spec_NewStore_eq (n : Int) : spec_NewStore.f n = some (newStore n) := by
  unfold spec_NewStore.f newStore
  simp only [spec_l01In_eq, Option.bind_some, decide_eq_true_eq]
  by_cases h : 0 ≤ n ∧ n ≤ 12
  · rw [if_pos h, if_pos h, w64 (by omega) (by omega), if_pos (by omega), if_pos (by omega)]
  · rw [if_neg h, if_neg h]

/-! ### spec_l05Make -/
theorem spec_l05Make_l1 {b : List Int} {i h : Int} (n : Nat) (hn : n ≤ 768) (cells : List Int) (hcl : cells.length ≤ 338) (hcr : ∀ x ∈ cells, 0 ≤ x ∧ x ≤ 4294967295) (a : Nat) (ha : a * 64 + 64 ≤ n)
    (next : ∀ ys : List Int, ys.length = n → (∀ x ∈ ys, 0 ≤ x ∧ x ≤ 4294967295) → ∃ r i' h', Ev (fun k => spec_l05Make.l0 k (wrap64 ((a : Int) + 1)) b i h ys) (r, i', h') ∧ r.length = n ∧ (∀ x ∈ r, 0 ≤ x ∧ x ≤ 4294967295) ∧ Cur b i') (d : Nat) :
    ∀ (j : Nat) (ys : List Int), j + d = cells.length → ys.length = n → (∀ x ∈ ys, 0 ≤ x ∧ x ≤ 4294967295) → ∃ r i' h', Ev (fun k => spec_l05Make.l1 k (a : Int) cells (j : Int) b i h ys) (r, i', h') ∧ r.length = n ∧ (∀ x ∈ r, 0 ≤ x ∧ x ≤ 4294967295) ∧ Cur b i' := by
  induction d with
  | zero =>
    intro j ys hj hy hr
    obtain ⟨r, i', h', e, p⟩ := next ys hy hr
    refine ⟨r, i', h', Ev.step (fun k => by rw [spec_l05Make.l1]) ?_, p⟩
    exact ev_neg (by omega) e
  | succ d ih =>
    intro j ys hj hy hr
    by_cases h64 : (j : Int) < 64
    · have hlt : j < cells.length := by omega
      have e1 : wrap64 ((wrap64 ((a : Int) * 64)) + (j : Int)) = ((a * 64 + j : Nat) : Int) := by rw [w64 (x := (a : Int) * 64) (by omega) (by omega), w64 (by omega) (by omega)]; omega
      obtain ⟨r, i', h', e, p⟩ := ih (j + 1) (ys.set (a * 64 + j) cells[j]) (by omega) (by rw [List.length_set]; exact hy) (fun x hx => by
        rcases List.mem_or_eq_of_mem_set hx with hx | hx
        · exact hr x hx
        · rw [hx]; exact hcr _ (List.getElem_mem _))
      refine ⟨r, i', h', Ev.step (fun k => by rw [spec_l05Make.l1]) ?_, p⟩
      rw [e1, w64 (by omega) (by omega), show ((j : Int) + 1) = ((j + 1 : Nat) : Int) by omega, rd_nat hlt, Int.toNat_natCast]
      exact ev_pos (by omega) (ev_pos h64 (ev_pos (by omega) (ev_pos (by omega) (ev_pos (by omega) e))))
    · obtain ⟨r, i', h', e, p⟩ := next ys hy hr
      refine ⟨r, i', h', Ev.step (fun k => by rw [spec_l05Make.l1]) ?_, p⟩
      exact ev_pos (by omega) (ev_neg h64 e)
theorem spec_l05Make_l0 {b : List Int} (n m d : Nat) (hn : n = m * 64) (hm : m ≤ 12) : ∀ (a : Nat) (i h : Int) (ys : List Int), a + d = m → ys.length = n → (∀ x ∈ ys, 0 ≤ x ∧ x ≤ 4294967295) → Cur b i →
    ∃ r i' h', Ev (fun k => spec_l05Make.l0 k (a : Int) b i h ys) (r, i', h') ∧ r.length = n ∧ (∀ x ∈ r, 0 ≤ x ∧ x ≤ 4294967295) ∧ Cur b i' := by
  induction d with
  | zero =>
    intro a i h ys had hy hr hc
    refine ⟨ys, i, h, Ev.step (fun k => by rw [spec_l05Make.l0]) ?_, hy, hr, hc⟩
    exact ev_neg (by rw [w64 (by omega) (by omega)]; omega) (ev_ret rfl)
  | succ d ih =>
    intro a i h ys had hy hr hc
    obtain ⟨cs, i1, h1, e1, hcl, hcr, c1⟩ := spec_l04Cells_ev (b := b) h hc
    obtain ⟨r, i', h', e, p⟩ := spec_l05Make_l1 (b := b) (i := i1) (h := h1) n (by omega) cs hcl hcr a (by omega) (fun zs hz hzr => by
      rw [w64 (by omega) (by omega), show ((a : Int) + 1) = ((a + 1 : Nat) : Int) by omega]
      exact ih (a + 1) i1 h1 zs (by omega) hz hzr c1) cs.length 0 ys (by omega) hy hr
    refine ⟨r, i', h', Ev.step (fun k => by rw [spec_l05Make.l0]) ?_, p⟩
    exact ev_pos (by rw [w64 (by omega) (by omega)]; omega) (ev_bind e1 e)
theorem spec_l05Make_ev {b : List Int} {i : Int} (h : Int) (hc : Cur b i) : ∃ (m : Nat) (r : List Int) (i' h' : Int), Ev (fun k => spec_l05Make.f k b i h) (r, i', h') ∧ 1 ≤ m ∧ m ≤ 3 ∧ r.length = m * 64 ∧ (∀ x ∈ r, 0 ≤ x ∧ x ≤ 4294967295) ∧ Cur b i' := by
  obtain ⟨q, i1, h1, e1, q0, q1, c1⟩ := spec_l01Below_eq h 3 hc (by omega)
  have hns : newStore (1 + q) = List.replicate ((1 + q) * 64).toNat 0 := if_pos (by omega)
  obtain ⟨r, i', h', e, p1, p2, p3⟩ := spec_l05Make_l0 (b := b) ((1 + q).toNat * 64) (1 + q).toNat (1 + q).toNat rfl (by omega) 0 i1 h1 (newStore (1 + q)) (by omega) (by rw [hns, List.length_replicate]; omega) (by rw [hns]; intro x hx; rw [(List.mem_replicate.1 hx).2]; omega) c1
  refine ⟨(1 + q).toNat, r, i', h', ev_bind (ev_eq e1) ?_, by omega, by omega, p1, p2, p3⟩
  simp only
  rw [w64 (by omega) (by omega)]
  exact ev_bind (ev_eq (spec_NewStore_eq _)) e

/-! ### spec_l05Any -/
theorem spec_l05Any_ev {b : List Int} {i : Int} (h : Int) (hc : Cur b i) : ∃ (r : List Int) (i' h' : Int), Ev (fun k => spec_l05Any.f k b i h) (r, i', h') ∧ r.length ≤ 832 ∧ (∀ x ∈ r, 0 ≤ x ∧ x ≤ 4294967295) ∧ Cur b i' := by
  obtain ⟨m, s, i1, h1, e1, m1, m3, hl, hr, c1⟩ := spec_l05Make_ev h hc
  obtain ⟨q, i2, h2, e2, q0, q1, c2⟩ := spec_l01Below_eq h1 12 c1 (by omega)
  by_cases g0 : q = 0
  · refine ⟨s ++ [7], i2, h2, ev_bind e1 (ev_bind (ev_eq e2) (ev_pos g0 (ev_pos (by simp only; omega) (ev_ret rfl)))), by rw [List.length_append, List.length_singleton]; omega, fun x hx => ?_, c2⟩
    rcases List.mem_append.1 hx with hx | hx
    · exact hr x hx
    · rw [List.mem_singleton] at hx; omega
  by_cases g1 : q = 1
  · obtain ⟨v, i3, h3, e3, v0, v1, c3⟩ := spec_l01Below_eq h2 3 c2 (by omega)
    have ew : wrap64 (64 * (wrap64 (11 + v))) = 64 * (11 + v) := by rw [w64 (x := 11 + v) (by omega) (by omega), w64 (by omega) (by omega)]
    refine ⟨List.replicate (64 * (11 + v)).toNat 0, i3, h3, ev_bind e1 (ev_bind (ev_eq e2) (ev_neg g0 (ev_pos g1 (ev_bind (ev_eq e3) ?_)))), by rw [List.length_replicate]; omega, fun x hx => by rw [(List.mem_replicate.1 hx).2]; omega, c3⟩
    simp only
    rw [ew]
    exact ev_pos (by omega) (ev_pos (by omega) (ev_ret rfl))
  by_cases g2 : q = 2
  · exact ⟨[], i2, h2, ev_bind e1 (ev_bind (ev_eq e2) (ev_neg g0 (ev_neg g1 (ev_pos g2 (ev_ret rfl))))), by simp, by simp, c2⟩
  · exact ⟨s, i2, h2, ev_bind e1 (ev_bind (ev_eq e2) (ev_neg g0 (ev_neg g1 (ev_neg g2 (ev_ret rfl))))), by omega, hr, c2⟩

/-! ### spec_DrawImageOf -/
theorem spec_DrawImageOf_ev (l : List Int) (hl : l.length ≤ 1048576) : ∃ r, Ev (fun k => spec_DrawImageOf.f k l) r ∧ r.length ≤ 832 ∧ ∀ x ∈ r, 0 ≤ x ∧ x ≤ 4294967295 := by
  obtain ⟨h, e⟩ := spec_l01New_ev l hl
  obtain ⟨r, i', h', e2, p1, p2, c⟩ := spec_l05Any_ev (b := l) (i := 0) h ⟨hl, by omega, by omega⟩
  exact ⟨r, ev_bind e (ev_bind e2 (ev_ret rfl)), p1, p2⟩

/-! ### impl_Sum -/
theorem impl_Sum_l0 (l : List Int) (hl : l.length ≤ 70368744177664) (d : Nat) : ∀ (h : Int) (i : Nat), i + d = l.length → Ev (fun k => impl_Sum.l0 k h l (l.length : Int) (i : Int)) (sumFrom h (l.drop i)) := by
  induction d with
  | zero =>
    intro h i hi
    refine Ev.step (fun k => by rw [impl_Sum.l0]) ?_
    refine ev_neg (by omega) (ev_ret ?_)
    rw [List.drop_of_length_le (by omega)]; rfl
  | succ d ih =>
    intro h i hi
    refine Ev.step (fun k => by rw [impl_Sum.l0]) ?_
    refine ev_pos (by omega) (ev_pos (by omega) (ev_pos (by omega) ?_))
    rw [w64 (by omega) (by omega), show ((i : Int) + 1) = ((i + 1 : Nat) : Int) by omega, rd_nat (by omega), List.drop_eq_getElem_cons (by omega : i < l.length)]
    exact ih _ (i + 1) (by omega)
theorem impl_Sum_ev (l : List Int) (hl : l.length ≤ 70368744177664) : Ev (fun k => impl_Sum.f k l) (sumOf l) := impl_Sum_l0 l hl l.length 2166136261 0 (by omega)

/-! ### impl_StoreOk -/
theorem impl_StoreOk_eq (l : List Int) : impl_StoreOk.f l = some (decide ((l.length : Int) % 64 = 0 ∧ (l.length : Int) ≤ 768)) := by
  unfold impl_StoreOk.f
  by_cases h : (l.length : Int) % 64 = 0
  · rw [if_pos h]; simp [h]
  · rw [if_neg h]; simp [h]

/-! ### slices_Clone_uint32_uint32 -/
theorem slices_Clone_u32_eq (l : List Int) (hl : l.length ≤ 35184372088831) : slices_Clone_uint32_uint32.f l = some l := if_pos hl

/-! ### impl_ImageOf -/
theorem impl_ImageOf_l0 (l : List Int) (hl : l.length ≤ 769) (d : Nat) : ∀ (i : Nat) (out : List Int), i + d = l.length → out.length ≤ 1 + 4 * i →
    Ev (fun k => impl_ImageOf.l0 k out l (l.length : Int) (i : Int)) (out ++ bytesFrom (l.drop i)) := by
  induction d with
  | zero =>
    intro i out hi ho
    refine Ev.step (fun k => by rw [impl_ImageOf.l0]) ?_
    refine ev_neg (by omega) (ev_ret ?_)
    rw [List.drop_of_length_le (by omega)]
    simp [bytesFrom]
  | succ d ih =>
    intro i out hi ho
    have hlt : i < l.length := by omega
    refine Ev.step (fun k => by rw [impl_ImageOf.l0]) ?_
    refine ev_pos (by omega) (ev_pos (by omega) (ev_pos (by omega) (ev_some (ev_pos (by simp only [List.length_cons, List.length_nil]; omega) ?_))))
    rw [rd_nat hlt, w64 (by omega) (by omega), show ((i : Int) + 1) = ((i + 1 : Nat) : Int) by omega]
    refine ev_to (ih (i + 1) _ (by omega) (by simp only [List.length_append, List.length_cons, List.length_nil]; omega)) ?_
    rw [List.drop_eq_getElem_cons hlt, bytesFrom, List.append_assoc]
    rfl
theorem impl_ImageOf_ev (l : List Int) : Ev (fun k => impl_ImageOf.f k l) (imageOf l) := by
  refine ev_bind (ev_eq (impl_StoreOk_eq l)) ?_
  by_cases h : (l.length : Int) % 64 = 0 ∧ (l.length : Int) ≤ 768
  · refine ev_pos (decide_eq_true h) (ev_bind (ev_eq (slices_Clone_u32_eq l (by omega))) (ev_bind (impl_Sum_ev l (by omega)) (ev_pos (by omega) (ev_some ?_))))
    have e : imageOf l = [(l.length : Int) / 64 % 256] ++ bytesFrom (l ++ [sumOf l]) := if_pos h
    rw [e, w64 (by omega) (by omega)]
    exact impl_ImageOf_l0 (l ++ [sumOf l]) (by simp; omega) (l ++ [sumOf l]).length 0 _ (Nat.zero_add _) (by simp)
  · exact ev_neg (by simpa using h) (ev_ret (if_neg h).symm)

/-! ### spec_StoreOk -/
theorem spec_StoreOk_eq (l : List Int) : spec_StoreOk.f l = some (decide ((l.length : Int) % 64 = 0 ∧ (l.length : Int) ≤ 768)) := by
  unfold spec_StoreOk.f
  by_cases h : (l.length : Int) % 64 = 0
  · rw [if_pos h]; simp [h]
  · rw [if_neg h]; simp [h]

/-! ### impl_lowFirst -/
theorem impl_lowFirst_eq (c : Int) (hc : 0 ≤ c ∧ c ≤ 4294967295) (r : List Int) : impl_lowFirst.f (four c ++ r) = some c := by
  unfold impl_lowFirst.f
  have e0 : rd (four c ++ r) 0 = c % 256 := by simp [rd, four]
  have e1 : rd (four c ++ r) 1 = c / 256 % 256 := by simp [rd, four]
  have e2 : rd (four c ++ r) 2 = c / 65536 % 256 := by simp [rd, four]
  have e3 : rd (four c ++ r) 3 = c / 16777216 % 256 := by simp [rd, four]
  have hl : (four c ++ r).length = r.length + 4 := by simp [four]
  rw [if_pos (by omega), if_pos (by omega), if_pos (by omega), if_pos (by omega), e0, e1, e2, e3]
  congr 1
  rw [or_comm_u32 (c % 256 % 4294967296), or_u32 (x := c / 256 % 256 % 4294967296 * 256 % 4294967296) (y := c % 256 % 4294967296) 8 (by omega) (by omega) (by omega) (by omega) (by omega)]
  rw [or_comm_u32 (c / 256 % 256 % 4294967296 * 256 % 4294967296 + c % 256 % 4294967296), or_u32 (x := c / 65536 % 256 % 4294967296 * 65536 % 4294967296) (y := c / 256 % 256 % 4294967296 * 256 % 4294967296 + c % 256 % 4294967296) 16 (by omega) (by omega) (by omega) (by omega) (by omega)]
  rw [or_comm_u32, or_u32 (x := c / 16777216 % 256 % 4294967296 * 16777216 % 4294967296) 24 (by omega) (by omega) (by omega) (by omega) (by omega)]
  omega

/-! ### impl_ReadImage -/
theorem impl_ReadImage_l0 (g : Int) (cs : List Int) (s : Int) (hcs : cs.length ≤ 1000000) (hr : ∀ x ∈ cs, 0 ≤ x ∧ x ≤ 4294967295) (hs : 0 ≤ s ∧ s ≤ 4294967295) (d : Nat) : ∀ (i : Nat), i + d = cs.length →
    Ev (fun k => impl_ReadImage.l0 k (g :: bytesFrom (cs ++ [s])) ((1 + 4 * i : Nat) : Int) (cs.take i)) (if s = sumOf cs then (cs, true) else ([], false)) := by
  have hlen : (g :: bytesFrom (cs ++ [s])).length = 5 + 4 * cs.length := by rw [List.length_cons, bytesFrom_length, List.length_append, List.length_singleton]; omega
  have ew : wrap64 (((g :: bytesFrom (cs ++ [s])).length : Int) - 4) = ((1 + 4 * cs.length : Nat) : Int) := by rw [hlen, w64 (by omega) (by omega)]; omega
  have hdrop : ∀ i : Nat, i ≤ cs.length → (g :: bytesFrom (cs ++ [s])).drop (1 + 4 * i) = bytesFrom ((cs ++ [s]).drop i) := by
    intro i hi
    rw [show 1 + 4 * i = 4 * i + 1 by omega, List.drop_succ_cons, bytesFrom_drop _ _ (by rw [List.length_append, List.length_singleton]; omega)]
  induction d with
  | zero =>
    intro i hi
    have hic : i = cs.length := by omega
    subst hic
    refine Ev.step (fun k => by rw [impl_ReadImage.l0]) ?_
    rw [ew, Int.toNat_natCast, hdrop _ (Nat.le_refl _), List.drop_append_of_le_length (Nat.le_refl _), List.drop_of_length_le (Nat.le_refl _), List.take_of_length_le (Nat.le_refl _), List.nil_append, bytesFrom]
    refine ev_neg (by omega) (ev_pos (by omega) (ev_pos (by omega) (ev_bind (ev_eq (impl_lowFirst_eq s hs _)) (ev_bind (impl_Sum_ev cs (by omega)) ?_))))
    exact ev_ite (fun h => ev_ret (if_pos h).symm) (fun h => ev_ret (if_neg h).symm)
  | succ d ih =>
    intro i hi
    have hlt : i < cs.length := by omega
    have next := ih (i + 1) (by omega)
    refine Ev.step (fun k => by rw [impl_ReadImage.l0]) ?_
    rw [ew, Int.toNat_natCast, hdrop _ (by omega), List.drop_append_of_le_length (by omega), List.drop_eq_getElem_cons hlt, List.cons_append, bytesFrom]
    refine ev_pos (by omega) (ev_pos (by omega) (ev_pos (by omega) (ev_bind (ev_eq (impl_lowFirst_eq _ (hr _ (List.getElem_mem _)) _)) (ev_pos (by rw [List.length_take]; omega) ?_))))
    rw [w64 (by omega) (by omega), show (((1 + 4 * i : Nat) : Int) + 4) = ((1 + 4 * (i + 1) : Nat) : Int) by omega, ← List.take_succ_eq_append_getElem hlt]
    exact next
theorem impl_ReadImage_ev (g : Int) (hg : 0 ≤ g ∧ g ≤ 255) (cs : List Int) (s : Int) (hcs : cs.length ≤ 1000000) (hr : ∀ x ∈ cs, 0 ≤ x ∧ x ≤ 4294967295) (hs : 0 ≤ s ∧ s ≤ 4294967295) :
    Ev (fun k => impl_ReadImage.f k (g :: bytesFrom (cs ++ [s]))) (if g ≤ 12 ∧ (cs.length : Int) = 64 * g then (if s = sumOf cs then (cs, true) else ([], false)) else ([], false)) := by
  have hlen : (g :: bytesFrom (cs ++ [s])).length = 5 + 4 * cs.length := by rw [List.length_cons, bytesFrom_length, List.length_append, List.length_singleton]; omega
  have hrd : rd (g :: bytesFrom (cs ++ [s])) 0 = g := rfl
  have bad : Ev (fun k => impl_ReadImage.j0 k (g :: bytesFrom (cs ++ [s])) true) ([], false) := by
    refine Ev.step (fun k => by rw [impl_ReadImage.j0]) ?_
    exact ev_pos rfl (ev_ret rfl)
  refine ev_neg (by omega) (ev_pos (by omega) ?_)
  rw [hrd]
  by_cases h12 : g > 12
  · rw [if_neg (by omega)]
    exact ev_pos h12 bad
  refine ev_neg h12 ?_
  rw [w64 (x := g) (by omega) (by omega), w64 (x := 256 * g) (by omega) (by omega), w64 (by omega) (by omega), hlen]
  by_cases hn : (cs.length : Int) = 64 * g
  · rw [if_pos ⟨by omega, hn⟩, show (((5 + 4 * cs.length : Nat) : Int) != 5 + 256 * g) = false from by simp; omega]
    refine Ev.step (fun k => by rw [impl_ReadImage.j0]) ?_
    exact ev_neg (by simp) (impl_ReadImage_l0 g cs s hcs hr hs cs.length 0 (Nat.zero_add _))
  · rw [if_neg (fun h => hn h.2), show (((5 + 4 * cs.length : Nat) : Int) != 5 + 256 * g) = true from by simp; omega]
    exact bad

/-! ### laws_sameCells -/
theorem laws_sameCells_l0 (a b : List Int) (hl : a.length ≤ 70368744177664) (he : a.length = b.length) (d : Nat) : ∀ (i : Nat), i + d = a.length → Ev (fun k => laws_sameCells.l0 k a b (i : Int)) (decide (a.drop i = b.drop i)) := by
  induction d with
  | zero =>
    intro i hi
    refine Ev.step (fun k => by rw [laws_sameCells.l0]) ?_
    refine ev_neg (by omega) (ev_ret ?_)
    rw [List.drop_of_length_le (by omega), List.drop_of_length_le (by omega)]; rfl
  | succ d ih =>
    intro i hi
    refine Ev.step (fun k => by rw [laws_sameCells.l0]) ?_
    refine ev_pos (by omega) (ev_pos (by omega) (ev_pos (by omega) ?_))
    rw [rd_nat (by omega), rd_nat (by omega), w64 (by omega) (by omega), show ((i : Int) + 1) = ((i + 1 : Nat) : Int) by omega, List.drop_eq_getElem_cons (by omega : i < a.length), List.drop_eq_getElem_cons (by omega : i < b.length)]
    refine ev_ite (fun h => ev_to (ih (i + 1) (by omega)) (dec_cons h)) (fun h => ev_ret (dec_cons_ne h))
theorem laws_sameCells_ev (a b : List Int) (hl : a.length ≤ 70368744177664) : Ev (fun k => laws_sameCells.f k a b) (decide (a = b)) := by
  by_cases h : a.length = b.length
  · exact ev_pos (by omega) (laws_sameCells_l0 a b hl h a.length 0 (Nat.zero_add _))
  · exact ev_neg (by omega) (ev_ret (decide_eq_false fun e => h (by rw [e])).symm)

/-! ### FnImage -/
theorem FnImage_turn (t : List Int) (hr : ∀ x ∈ t, 0 ≤ x ∧ x ≤ 4294967295) (h : (t.length : Int) % 64 = 0 ∧ (t.length : Int) ≤ 768) (i : Nat) (hi : i < (imageOf t).length) (v : Int) (hv : 0 ≤ v ∧ v ≤ 255) (hne : v ≠ (imageOf t)[i]) :
    ∃ cs, Ev (fun k => impl_ReadImage.f k ((imageOf t).set i v)) (cs, false) := by
  have e : imageOf t = ((t.length : Int) / 64 % 256) :: bytesFrom (t ++ [sumOf t]) := if_pos h
  have hs := sumOf_range t
  have hall : ∀ x ∈ t ++ [sumOf t], 0 ≤ x ∧ x ≤ 4294967295 := by
    intro x hx
    rcases List.mem_append.1 hx with hx | hx
    · exact hr x hx
    · rw [List.mem_singleton] at hx; rw [hx]; exact hs
  rw [e] at hi
  simp only [e] at hne ⊢
  cases i with
  | zero =>
    rw [List.set_cons_zero]
    rw [List.getElem_cons_zero] at hne
    refine ⟨[], ev_to (impl_ReadImage_ev v hv t (sumOf t) (by omega) hr hs) (if_neg ?_)⟩
    omega
  | succ j =>
    rw [List.set_cons_succ]
    rw [List.getElem_cons_succ] at hne
    rw [List.length_cons] at hi
    obtain ⟨q, u, hq, hu, hn, hset⟩ := bytesFrom_set (t ++ [sumOf t]) j v (by omega) hall hv hne
    rw [hset]
    rw [List.length_append, List.length_singleton] at hq
    by_cases hlt : q < t.length
    · rw [List.set_append_left _ _ hlt]
      rw [List.getElem_append_left hlt] at hn
      refine ⟨[], ev_to (impl_ReadImage_ev _ (by omega) (t.set q u) (sumOf t) (by rw [List.length_set]; omega) (fun x hx => ?_) hs) ?_⟩
      · rcases List.mem_or_eq_of_mem_set hx with hx | hx
        · exact hr x hx
        · rw [hx]; exact hu
      · rw [if_neg (fun h : sumOf t = sumOf (t.set q u) => sumOf_set hlt hr hu hn h.symm), ite_self]
    · have hqe : q = t.length := by omega
      subst hqe
      rw [List.set_append_right _ _ (Nat.le_refl _), Nat.sub_self, List.set_cons_zero]
      rw [List.getElem_append_right (Nat.le_refl _)] at hn
      simp only [Nat.sub_self, List.getElem_cons_zero] at hn
      refine ⟨[], ev_to (impl_ReadImage_ev _ (by omega) t u (by omega) hr hu) ?_⟩
      rw [if_neg hn, ite_self]
theorem FnImage : laws_FnImage.Pure := by
  intro l hl hz hw
  have hb : ∀ x ∈ l, 0 ≤ x ∧ x ≤ 255 := fun x hx => wf_u8 (hw x hx)
  refine Ev.rounds (r := true) ?_
  refine ev_bind (ev_eq (laws_big_eq l)) ?_
  by_cases hs : (l.length : Int) > 1048576
  · exact ev_pos (decide_eq_true hs) (ev_ret rfl)
  refine ev_neg (by simpa using hs) ?_
  obtain ⟨t, e, ht, hr⟩ := spec_DrawImageOf_ev l (by omega)
  refine ev_bind e (ev_bind (impl_ImageOf_ev t) (ev_bind (ev_eq (spec_StoreOk_eq t)) ?_))
  by_cases h : (t.length : Int) % 64 = 0 ∧ (t.length : Int) ≤ 768
  · refine ev_pos (decide_eq_true h) ?_
    have ei : imageOf t = ((t.length : Int) / 64 % 256) :: bytesFrom (t ++ [sumOf t]) := if_pos h
    have hlen : (imageOf t).length = 5 + 4 * t.length := by rw [ei, List.length_cons, bytesFrom_length, List.length_append, List.length_singleton]; omega
    have back := impl_ReadImage_ev ((t.length : Int) / 64 % 256) (by omega) t (sumOf t) (by omega) hr (sumOf_range t)
    rw [← ei, if_pos (by omega), if_pos rfl] at back
    refine ev_bind back (ev_pos rfl (ev_bind (laws_sameCells_ev t t (by omega)) (ev_pos (decide_eq_true rfl) ?_)))
    rw [hlen, w64 (x := 4 * (t.length : Int)) (by omega) (by omega), w64 (x := 5 + 4 * (t.length : Int)) (by omega) (by omega), show (((5 + 4 * t.length : Nat) : Int) != 5 + 4 * (t.length : Int)) = false from by simp]
    obtain ⟨a0, e0, p0, q0⟩ := laws_at_eq l (by omega) hb 0 (by omega)
    obtain ⟨a1, e1, p1, q1⟩ := laws_at_eq l (by omega) hb 1 (by omega)
    obtain ⟨a2, e2, p2, q2⟩ := laws_at_eq l (by omega) hb 2 (by omega)
    have t1 := tmod_range (x := a0 * 256 + a1) (by omega) (show (0 : Int) < ((imageOf t).length : Int) by omega)
    have t2 := tmod_range p2 (show (0 : Int) < 8 by omega)
    refine Ev.step (fun k => by rw [laws_FnImage.j0]) ?_
    refine ev_neg (by simp) (ev_bind (ev_eq e0) (ev_bind (ev_eq e1) ?_))
    rw [w64 (x := a0 * 256) (by omega) (by omega), w64 (x := a0 * 256 + a1) (by omega) (by omega)]
    refine ev_neg (by omega) (ev_pos t1.1 (ev_pos t1.2 (ev_bind (ev_eq e2) ?_)))
    generalize Int.tmod (a0 * 256 + a1) ((imageOf t).length : Int) = i at t1 ⊢
    generalize Int.tmod a2 8 = w at t2 ⊢
    rw [wu64 (by omega) (by omega), rd_at t1.1 t1.2]
    have hmem : 0 ≤ (imageOf t)[i.toNat]'(by omega) ∧ (imageOf t)[i.toNat]'(by omega) ≤ 255 := by
      have hm : ∀ x ∈ imageOf t, 0 ≤ x ∧ x ≤ 255 := by
        rw [ei]
        intro x hx
        rcases List.mem_cons.1 hx with hx | hx
        · omega
        · exact bytesFrom_byte _ x hx
      exact hm _ (List.getElem_mem _)
    have hsh : 1 ≤ shl .u8 1 w ∧ shl .u8 1 w ≤ 255 := by
      have : w = 0 ∨ w = 1 ∨ w = 2 ∨ w = 3 ∨ w = 4 ∨ w = 5 ∨ w = 6 ∨ w = 7 := by omega
      rcases this with h | h | h | h | h | h | h | h <;> subst h <;> decide
    obtain ⟨cs, ec⟩ := FnImage_turn t hr h i.toNat (by omega) _ (xor_u8_range _ (shl .u8 1 w)) (xor_u8_ne hmem hsh)
    exact ev_pos t2.1 (ev_bind ec (ev_ret rfl))
  · refine ev_neg (by simpa using h) (ev_ret ?_)
    rw [show imageOf t = [] from if_neg h]; rfl

end Go.Proofs.Ytcfihncnendkgaa.Pure
