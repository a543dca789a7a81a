/-
The law FnExactItemText holds of the printed plain functions, for all arguments that the printed bounds allow.
-/
import Derived.Test.YtfjmpdcflnaogaaDoorQFnExactItemTextx1
import Derived.Test.YtfjmpdcflnaogaaDoorQFnExactItemTextx2
import Derived.Test.YtfjmpdcflnaogaaDoorQFnExactItemTextx3
import Derived.Test.YtfjmpdcflnaogaaDoorQFnExactItemTextx4
import Derived.Test.YtfjmpdcflnaogaaDoorQFnExactItemTextx5
import Derived.Test.YtfjmpdcflnaogaaDoorQFnExactItemTextx6
import Derived.Test.YtfjmpdcflnaogaaDoorQFnExactItemTextx7
import Derived.Test.YtfjmpdcflnaogaaDoorQFnExactItemTextx8
import Derived.Test.YtfjmpdcflnaogaaDoorTools
import Derived.Test.YtfjmpdcflnaogaaDoorSpots
import Derived.Test.YtfjmpdcflnaogaaDoorDecs
import Derived.Test.YtfjmpdcflnaogaaDoorLetters
import Derived.Test.YtfjmpdcflnaogaaDoorHeads
import Derived.Test.YtfjmpdcflnaogaaDoorNames
import Derived.Test.YtfjmpdcflnaogaaDoorItems
import Derived.Test.YtfjmpdcflnaogaaDoorReadDecs
import Derived.Test.YtfjmpdcflnaogaaDoorRound
namespace Go.Proofs.YtfjmpdcflnaogaaDoor.Pure
open Go.RowKit Go.Proofs.YtfjmpdcflnaogaaDoor.QFnExactItemText Go.Proofs.YtfjmpdcflnaogaaDoorW.PrintWords Go.Proofs.YtfjmpdcflnaogaaDoorW.PrintLast Go.Proofs.YtfjmpdcflnaogaaDoorW.PrintMore Go.Proofs.YtfjmpdcflnaogaaDoor.Tools Go.Proofs.YtfjmpdcflnaogaaDoor.Plain
set_option linter.unusedVariables false

/-! ### laws_szItem -/
theorem laws_szItem_eq (a0 : Int) (s : ByteArray) (a2 : Int) (a3 : Bool) (a4 left : Int) (h0 : 0 ≤ left) (h1 : left ≤ 1048576) (hl : s.size ≤ 140737488351232) : laws_szItem.f a0 s a2 a3 a4 left = some (if (s.size : Int) ≤ left then left - s.size else -1) := by
  unfold laws_szItem.f
  rw [w64 (by omega) (by omega)]
  by_cases h : (s.size : Int) ≤ left
  · rw [if_pos h, if_neg (by omega)]
  · rw [if_neg h, if_pos (by omega)]

/-! ### spec_l04Num -/
theorem spec_l04Num_eq (n : Int) (hex : Bool) (s l : Int) (hn : -2147483648 ≤ n ∧ n ≤ 2147483647) (hs : 0 ≤ s ∧ s ≤ 15) (hl : 0 ≤ l ∧ l ≤ 15) : spec_l04Num.f n hex s l = some (numCells n hex s l) := by
  unfold spec_l04Num.f numCells bitOf
  cases hex
  · simp only [Bool.false_eq_true, if_false]
    by_cases h : -67108864 ≤ n ∧ n ≤ 67108863
    · rw [if_pos h.1, if_pos h.2, if_pos h]
      congr 2; omega
    · rw [if_neg h]
      have e : (0 + l) % 4294967296 = 0 + l := by omega
      rw [e]
      by_cases h1 : n ≥ -67108864
      · rw [if_pos h1, if_neg (by omega)]
      · rw [if_neg h1]
  · simp only [if_true]
    by_cases h : -67108864 ≤ n ∧ n ≤ 67108863
    · rw [if_pos h.1, if_pos h.2, if_pos h]
      congr 2; omega
    · rw [if_neg h]
      have e : (16 + l) % 4294967296 = 16 + l := by omega
      rw [e]
      by_cases h1 : n ≥ -67108864
      · rw [if_pos h1, if_neg (by omega)]
      · rw [if_neg h1]

/-! ### spec_l01In -/
theorem spec_l01In_eq (a b c : Int) : spec_l01In.f a b c = some (decide (b ≤ a ∧ a ≤ c)) := by
  unfold spec_l01In.f
  by_cases h : b ≤ a
  · rw [if_pos h]; simp [h]
  · rw [if_neg h]; simp [h]

/-! ### spec_LetterOf -/
theorem spec_LetterOf_all : ∀ b : UInt8, spec_LetterOf.f 49 (b.toNat : Int) = some (lo b) := all_bytes (by decide +kernel)
theorem spec_LetterOf_ev (b : UInt8) : Ev (fun k => spec_LetterOf.f k (b.toNat : Int)) (lo b) := Ev.of (spec_LetterOf.mono _) (spec_LetterOf_all b)

/-! ### spec_NameOk -/
theorem spec_NameOk_l0 (s : ByteArray) (hs : s.size ≤ 24) (d : Nat) : ∀ i : Nat, i + d = s.size → Ev (fun k => spec_NameOk.l0 k s (i : Int)) ((s.data.toList.drop i).all (fun b => decide (1 ≤ lo b))) := by
  induction d with
  | zero =>
    intro i hi
    refine Ev.step (fun k => by rw [spec_NameOk.l0]) ?_
    refine ev_neg (by omega) (ev_ret ?_)
    rw [List.drop_of_length_le (by rw [← size_eq]; omega)]; rfl
  | succ d ih =>
    intro i hi
    have hlt : i < s.size := by omega
    refine Ev.step (fun k => by rw [spec_NameOk.l0]) ?_
    refine ev_pos (by omega) (ev_pos (by omega) (ev_bind (by rw [bt_at hlt]; exact spec_LetterOf_ev _) ?_))
    rw [drop_cons hlt, List.all_cons]
    by_cases h : 1 ≤ lo s[i]
    · refine ev_neg (by omega) ?_
      rw [w64 (by omega) (by omega), show ((i : Int) + 1) = ((i + 1 : Nat) : Int) by omega, decide_eq_true h, Bool.true_and]
      exact ih (i + 1) (by omega)
    · refine ev_pos (by omega) (ev_ret ?_)
      rw [decide_eq_false h, Bool.false_and]
theorem spec_NameOk_ev (s : ByteArray) : Ev (fun k => spec_NameOk.f k s) (okName s.data.toList) := by
  refine ev_bind (ev_eq (spec_l01In_eq _ _ _)) ?_
  unfold okName
  rw [← size_eq]
  by_cases h : 1 ≤ (s.size : Int) ∧ (s.size : Int) ≤ 24
  · refine ev_pos (decide_eq_true h) ?_
    rw [decide_eq_true (show 1 ≤ s.size by omega), decide_eq_true (show s.size ≤ 24 by omega), Bool.true_and, Bool.true_and]
    exact spec_NameOk_l0 s (by omega) s.size 0 (by omega)
  · refine ev_neg (by simp only [decide_eq_true_eq]; exact h) (ev_ret ?_)
    by_cases h1 : 1 ≤ s.size
    · rw [decide_eq_false (show ¬ s.size ≤ 24 by omega)]; simp
    · rw [decide_eq_false h1]; simp

/-! ### spec_WidthOf -/
theorem spec_WidthOf_eq (k : Int) : spec_WidthOf.f k = some (widthOf k) := by
  unfold spec_WidthOf.f widthOf
  simp only [spec_l01In_eq, Option.bind_some, decide_eq_true_eq]
  by_cases h1 : 0 ≤ k ∧ k ≤ 7
  · rw [if_pos h1, if_pos h1]
  rw [if_neg h1, if_neg h1]
  by_cases h2 : 8 ≤ k ∧ k ≤ 15
  · rw [if_pos h2, if_pos h2]
  rw [if_neg h2, if_neg h2]
  by_cases h3 : 16 ≤ k ∧ k ≤ 47
  · rw [if_pos h3, if_pos h3]
  rw [if_neg h3, if_neg h3]

/-! ### spec_BitsOf -/
theorem spec_BitsOf_eq (k : Int) : spec_BitsOf.f k = some (bitsOf k) := by
  unfold spec_BitsOf.f
  simp only [spec_WidthOf_eq, Option.bind_some]
  rcases width_cases k with ⟨e1, e2, h⟩ | ⟨e1, e2, h⟩ | ⟨e1, e2, h⟩ | ⟨e1, e2, h⟩ <;> rw [e1, e2] <;> simp
  · omega
  · rw [w64 (by omega) (by omega)]; omega
  · rw [w64 (by omega) (by omega)]; omega

/-! ### spec_l03One -/
theorem spec_l03One_l0 (s : ByteArray) (hs : s.size ≤ 1000000) (hb : ∀ b ∈ s.data.toList, 1 ≤ lo b) (d : Nat) : ∀ (i : Nat) (f left : Int), i + d = s.size → 0 ≤ left → left ≤ 28 → 0 ≤ f → f + 2 ^ left.toNat ≤ 268435456 →
    Ev (fun k => spec_l03One.l0 k s f left (i : Int)) (f + (one (s.data.toList.drop i) left).1, (i : Int) + ((one (s.data.toList.drop i) left).2 : Int)) := by
  induction d with
  | zero =>
    intro i f left hi h0 h1 h2 h3
    have := two_pow_pos left.toNat
    refine Ev.step (fun k => by rw [spec_l03One.l0]) ?_
    refine ev_neg (by omega) (ev_ret ?_)
    rw [List.drop_of_length_le (by rw [← size_eq]; omega), one]
    simp; omega
  | succ d ih =>
    intro i f left hi h0 h1 h2 h3
    have hlt : i < s.size := by omega
    have hp := two_pow_pos left.toNat
    have hl1 := hb s[i] (by rw [getB hlt]; exact List.getElem_mem _)
    have hlr := lo_range s[i]
    have w := width_in (k := lo s[i]) (by omega) (by omega)
    rw [drop_cons hlt, one]
    refine Ev.step (fun k => by rw [spec_l03One.l0]) ?_
    refine ev_pos (by omega) (ev_pos (by omega) (ev_bind (by rw [bt_at hlt]; exact spec_LetterOf_ev _) (ev_bind (ev_eq (spec_WidthOf_eq _)) ?_)))
    by_cases hw : widthOf (lo s[i]) > left
    · rw [if_pos hw]
      refine ev_pos hw (ev_ret ?_)
      simp; omega
    · rw [if_neg hw]
      have e : left.toNat = (widthOf (lo s[i])).toNat + (left - widthOf (lo s[i])).toNat := by omega
      have hq := two_pow_pos (left - widthOf (lo s[i])).toNat
      have hm : (bitsOf (lo s[i]) + 1) * 2 ^ (left - widthOf (lo s[i])).toNat ≤ 2 ^ left.toNat := by
        rw [e, Int.pow_add]; exact Int.mul_le_mul_of_nonneg_right (by omega) (by omega)
      rw [Int.add_mul] at hm
      have hn := Int.mul_nonneg w.2.2.1 (show 0 ≤ (2 : Int) ^ (left - widthOf (lo s[i])).toNat by omega)
      have hb7 := two_pow_le (a := (widthOf (lo s[i])).toNat) (b := 7) (by omega)
      refine ev_neg hw (ev_bind (ev_eq (spec_BitsOf_eq _)) (ev_pos (by rw [w64 (by omega) (by omega), wu64 (by omega) (by omega)]; omega) ?_))
      rw [w64 (x := bitsOf (lo s[i])) (by omega) (by omega), w64 (x := left - widthOf (lo s[i])) (by omega) (by omega), wu64 (by omega) (by omega), shl_i64 w.2.2.1 (by omega) (by omega), w64 (by omega) (by omega), w64 (by omega) (by omega), show ((i : Int) + 1) = ((i + 1 : Nat) : Int) by omega]
      refine ev_to (ih (i + 1) _ _ (by omega) (by omega) (by omega) (by omega) (by omega)) ?_
      simp only [Prod.mk.injEq]
      constructor <;> omega
theorem spec_l03One_ev (l : List UInt8) (hl : l.length ≤ 1000000) (hb : ∀ b ∈ l, 1 ≤ lo b) : Ev (fun k => spec_l03One.f k (toB l)) ((one l 28).1, ((one l 28).2 : Int)) := by
  refine ev_to (spec_l03One_l0 (toB l) (by rw [toB_size]; exact hl) hb l.length 0 0 28 (by rw [toB_size]; omega) (by omega) (by omega) (by omega) (by decide)) ?_
  rw [toB_data]; simp

/-! ### spec_Pack -/
theorem spec_Pack_l0 (n : Nat) : ∀ (l : List UInt8) (out : List Int), l.length ≤ n → n ≤ 1000000 → (∀ b ∈ l, 1 ≤ lo b) → out.length + l.length ≤ 1000000 → Ev (fun k => spec_Pack.l0 k (toB l) out) (out ++ packF l.length l) := by
  induction n with
  | zero =>
    intro l out hl hn hb ho
    have : l = [] := List.eq_nil_of_length_eq_zero (by omega)
    subst this
    refine Ev.step (fun k => by rw [spec_Pack.l0]) ?_
    exact ev_pos (by rw [ba_toList]; rfl) (ev_ret (by simp [packF]))
  | succ n ih =>
    intro l out hl hn hb ho
    by_cases h : l = []
    · subst h
      refine Ev.step (fun k => by rw [spec_Pack.l0]) ?_
      exact ev_pos (by rw [ba_toList]; rfl) (ev_ret (by simp [packF]))
    · have h1 := one_pos h (left := 28) (by omega)
      have h2 := one_range l 28 (by omega) (by omega) hb
      refine Ev.step (fun k => by rw [spec_Pack.l0]) ?_
      refine ev_neg (by rw [ba_toList, toB_data]; exact h) (ev_bind (spec_l03One_ev l (by omega) hb) (ev_pos (by omega) (ev_pos (by simp only; omega) (ev_pos (by rw [toB_size]; simp only; omega) ?_))))
      rw [packF_step h, extract_eq, toB_data, toB_size, List.take_of_length_le (by omega)]
      simp only [Int.toNat_natCast]
      refine ev_to (ih (l.drop (one l 28).2) (out ++ [(one l 28).1]) (by rw [List.length_drop]; omega) (by omega) (fun b hb' => hb b (List.mem_of_mem_drop hb')) (by simp only [List.length_append, List.length_drop, List.length_cons, List.length_nil]; omega)) ?_
      simp
theorem spec_Pack_ev (l : List UInt8) : Ev (fun k => spec_Pack.f k (toB l)) (pack l) := by
  refine ev_some (ev_bind (spec_NameOk_ev _) ?_)
  rw [toB_data]
  unfold pack
  by_cases h : okName l = true
  · rw [if_pos h]
    obtain ⟨h1, h2, h3⟩ := (okName_iff l).1 h
    exact ev_pos h (spec_Pack_l0 l.length l [] (by omega) (by omega) h3 (by simp; omega))
  · rw [if_neg h]
    exact ev_neg h (ev_ret rfl)

/-! ### spec_l04Word -/
theorem spec_l04Word_l0 (t : Int) (ht : 0 ≤ t ∧ t ≤ 15) (fs : List Int) (hf : ∀ f ∈ fs, 0 ≤ f ∧ f < 268435456) (hl : fs.length ≤ 24) (d : Nat) : ∀ i : Nat, i + d = fs.length →
    Ev (fun k => spec_l04Word.l0 k t ((word t fs).take i ++ fs.drop i) (i : Int)) (word t fs) := by
  induction d with
  | zero =>
    intro i hi
    refine Ev.step (fun k => by rw [spec_l04Word.l0]) ?_
    have hw := word_length t fs
    refine ev_neg (by rw [List.length_append, List.length_take, List.length_drop]; omega) (ev_ret ?_)
    rw [List.take_of_length_le (by omega), List.drop_of_length_le (by omega), List.append_nil]
  | succ d ih =>
    intro i hi
    have hw := word_length t fs
    have hlt : i < fs.length := by omega
    have hfi := hf fs[i] (List.getElem_mem _)
    have hti : i = ((word t fs).take i).length := by rw [List.length_take]; omega
    have hg := word_getElem t fs i hlt
    refine Ev.step (fun k => by rw [spec_l04Word.l0]) ?_
    refine ev_pos (by rw [List.length_append, List.length_take, List.length_drop]; omega) (ev_pos (by omega) (ev_some ?_))
    rw [List.drop_eq_getElem_cons hlt, rd_mid hti]
    simp only [Int.toNat_natCast]
    rw [set_mid hti, w64 (by omega) (by omega), show ((i : Int) + 1) = ((i + 1 : Nat) : Int) by omega]
    have next := ih (i + 1) (by omega)
    rw [List.take_succ_eq_append_getElem (by rw [hw]; exact hlt), hg, List.append_assoc, List.singleton_append] at next
    by_cases h0 : i = 0
    · refine ev_pos (by omega) ?_
      rw [rd_mid hti, set_mid hti]
      rw [if_pos h0] at next
      rw [show (fs[i] * 16 % 4294967296 + t) % 4294967296 = fs[i] * 16 + t by omega]
      exact next
    · refine ev_neg (by omega) ?_
      rw [if_neg h0] at next
      rw [show fs[i] * 16 % 4294967296 = fs[i] * 16 by omega]
      exact next
theorem spec_l04Word_ev (t : Int) (ht : 0 ≤ t ∧ t ≤ 15) (l : List UInt8) : Ev (fun k => spec_l04Word.f k t (toB l)) (word t (pack l)) := by
  refine ev_bind (spec_Pack_ev l) ?_
  have := spec_l04Word_l0 t ht (pack l) (fun f hf => (pack_fields f hf).2) (pack_length l) (pack l).length 0 (Nat.zero_add _)
  simpa using this

/-! ### spec_l04Tag -/
theorem spec_l04Tag_eq (k : Int) : spec_l04Tag.f k = some (tagOf k) := by
  unfold spec_l04Tag.f tagOf
  repeat' split
  all_goals rfl

/-! ### spec_CellsOf -/
theorem spec_CellsOf_j0 (it : It) (hn : -2147483648 ≤ it.n ∧ it.n ≤ 2147483647) (b : Bool) (hb : b = true ↔ (it.n = 0 ∧ it.hex = false ∧ it.raw = 0)) : Ev (fun k => spec_CellsOf.j0 k b it.kind (toB it.name) it.n it.hex it.raw) (cellsOf it) := by
  obtain ⟨kind, name, n, hex, raw⟩ := it
  simp only at hn hb ⊢
  refine Ev.step (fun k => by rw [spec_CellsOf.j0]) ?_
  by_cases k0 : kind = 0
  · refine ev_pos k0 ?_
    have e : cellsOf ⟨kind, name, n, hex, raw⟩ = if name = [] ∧ n = 0 ∧ hex = false then [raw] else [] := by unfold cellsOf; simp only; rw [if_pos k0]
    rw [e]
    by_cases h1 : name = []
    · refine ev_pos ((toB_nil_iff name).2 h1) ?_
      by_cases h2 : n = 0
      · refine ev_pos h2 ?_
        cases hex with
        | true => exact ev_pos rfl (ev_ret (if_neg (fun h => Bool.noConfusion h.2.2)).symm)
        | false => exact ev_neg (by simp) (ev_ret (if_pos ⟨h1, h2, rfl⟩).symm)
      · exact ev_neg h2 (ev_ret (if_neg (fun h => h2 h.2.1)).symm)
    · exact ev_neg (fun h => h1 ((toB_nil_iff name).1 h)) (ev_ret (if_neg (fun h => h1 h.1)).symm)
  refine ev_neg k0 ?_
  by_cases k7 : kind = 7
  · refine ev_pos k7 ?_
    have e : cellsOf ⟨kind, name, n, hex, raw⟩ = if name = [] ∧ raw = 0 then numCells n hex 8 2 else [] := by unfold cellsOf; simp only; rw [if_neg k0, if_pos k7]
    rw [e]
    by_cases h1 : name = []
    · refine ev_pos ((toB_nil_iff name).2 h1) ?_
      by_cases h2 : raw = 0
      · exact ev_pos h2 (ev_bind (ev_eq (spec_l04Num_eq n hex 8 2 hn (by omega) (by omega))) (ev_ret (if_pos ⟨h1, h2⟩).symm))
      · exact ev_neg h2 (ev_ret (if_neg (fun h => h2 h.2)).symm)
    · exact ev_neg (fun h => h1 ((toB_nil_iff name).1 h)) (ev_ret (if_neg (fun h => h1 h.1)).symm)
  refine ev_neg k7 ?_
  by_cases k8 : kind = 8
  · refine ev_pos k8 ?_
    have e : cellsOf ⟨kind, name, n, hex, raw⟩ = if name = [] ∧ raw = 0 then numCells n hex 6 5 else [] := by unfold cellsOf; simp only; rw [if_neg k0, if_neg k7, if_pos k8]
    rw [e]
    by_cases h1 : name = []
    · refine ev_pos ((toB_nil_iff name).2 h1) ?_
      by_cases h2 : raw = 0
      · exact ev_pos h2 (ev_bind (ev_eq (spec_l04Num_eq n hex 6 5 hn (by omega) (by omega))) (ev_ret (if_pos ⟨h1, h2⟩).symm))
      · exact ev_neg h2 (ev_ret (if_neg (fun h => h2 h.2)).symm)
    · exact ev_neg (fun h => h1 ((toB_nil_iff name).1 h)) (ev_ret (if_neg (fun h => h1 h.1)).symm)
  refine ev_neg k8 ?_
  by_cases k9 : kind = 9
  · have hp := pack_length name
    have hwl := word_length 12 (pack name)
    have e : cellsOf ⟨kind, name, n, hex, raw⟩ = if hex = false ∧ raw = 0 ∧ (pack name).length = 1 then word 12 (pack name) ++ [n % 4294967296] else [] := by unfold cellsOf; simp only; rw [if_neg k0, if_neg k7, if_neg k8, if_pos k9]
    rw [e]
    refine ev_pos k9 (ev_bind (spec_l04Word_ev 12 (by omega) name) ?_)
    by_cases h1 : (pack name).length = 1
    · refine ev_pos (by omega) ?_
      cases hex with
      | true => exact ev_pos rfl (ev_ret (if_neg (fun h => Bool.noConfusion h.1)).symm)
      | false =>
        refine ev_neg (by simp) ?_
        by_cases h2 : raw = 0
        · exact ev_pos h2 (ev_pos (by omega) (ev_ret (if_pos ⟨rfl, h2, h1⟩).symm))
        · exact ev_neg h2 (ev_ret (if_neg (fun h => h2 h.2.1)).symm)
    · exact ev_neg (by omega) (ev_ret (if_neg (fun h => h1 h.2.2)).symm)
  have e : cellsOf ⟨kind, name, n, hex, raw⟩ = if 0 < tagOf kind ∧ n = 0 ∧ hex = false ∧ raw = 0 then word (tagOf kind) (pack name) else [] := by unfold cellsOf; simp only; rw [if_neg k0, if_neg k7, if_neg k8, if_neg k9]
  rw [e]
  refine ev_neg k9 (ev_bind (ev_eq (spec_l04Tag_eq kind)) ?_)
  have ht := tagOf_range kind
  by_cases hp : 0 < tagOf kind
  · refine ev_pos hp ?_
    by_cases hq : n = 0 ∧ hex = false ∧ raw = 0
    · exact ev_pos (hb.2 hq) (ev_bind (spec_l04Word_ev _ (by omega) name) (ev_ret (if_pos ⟨hp, hq⟩).symm))
    · exact ev_neg (fun h => hq (hb.1 h)) (ev_ret (if_neg (fun h => hq h.2)).symm)
  · exact ev_neg hp (ev_ret (if_neg (fun h => hp h.1)).symm)
theorem spec_CellsOf_ev (it : It) (hn : -2147483648 ≤ it.n ∧ it.n ≤ 2147483647) : Ev (fun k => spec_CellsOf.f k it.kind (toB it.name) it.n it.hex it.raw) (cellsOf it) := by
  unfold spec_CellsOf.f
  by_cases h1 : it.n = 0
  · refine ev_pos h1 ?_
    cases h2 : it.hex with
    | true =>
      refine ev_pos rfl ?_
      rw [← h2]
      exact spec_CellsOf_j0 it hn _ (by simp [h2])
    | false =>
      refine ev_neg (by simp) ?_
      rw [← h2]
      exact spec_CellsOf_j0 it hn _ (by simp [h1, h2])
  · exact ev_neg h1 (spec_CellsOf_j0 it hn _ (by simp [h1]))

/-! ### spec_ItemOk -/
theorem spec_ItemOk_ev (it : It) (hn : -2147483648 ≤ it.n ∧ it.n ≤ 2147483647) : Ev (fun k => spec_ItemOk.f k it.kind (toB it.name) it.n it.hex it.raw) (decide (0 < (cellsOf it).length)) := by
  refine ev_bind (spec_CellsOf_ev it hn) (ev_ret ?_)
  rw [Bool.eq_iff_iff, decide_eq_true_eq, decide_eq_true_eq]; omega

/-! ### hexL -/
/-- The digits, none for nought. -/
def hexN (u : Nat) : List UInt8 := if u = 0 then [] else Hex.hexL u
theorem hexN_step (u : Nat) (h : u ≠ 0) : hexN u = hexN (u / 16) ++ [Hex.hexDig (u % 16)] := by
  unfold hexN
  rw [if_neg h]
  by_cases h1 : u < 16
  · rw [Hex.hexL_small h1, if_pos (by omega), Nat.mod_eq_of_lt h1]; rfl
  · rw [Hex.hexL_step h1, if_neg (by omega)]
theorem hex_cut (d : Nat) (h : d < 16) : (⟨#[48, 49, 50, 51, 52, 53, 54, 55, 56, 57, 97, 98, 99, 100, 101, 102]⟩ : ByteArray).extract d (d + 1) = toB [Hex.hexDig d] := by
  rw [extract_eq]
  apply congrArg toB
  match d, h with
  | 0, _ => rfl
  | 1, _ => rfl
  | 2, _ => rfl
  | 3, _ => rfl
  | 4, _ => rfl
  | 5, _ => rfl
  | 6, _ => rfl
  | 7, _ => rfl
  | 8, _ => rfl
  | 9, _ => rfl
  | 10, _ => rfl
  | 11, _ => rfl
  | 12, _ => rfl
  | 13, _ => rfl
  | 14, _ => rfl
  | 15, _ => rfl
  | n + 16, h => omega
theorem tmod16 (u : Nat) : Int.tmod (u : Int) 16 = ((u % 16 : Nat) : Int) := rfl
theorem tdiv16 (u : Nat) : Int.tdiv (u : Int) 16 = ((u / 16 : Nat) : Int) := rfl

/-! ### readHex -/
def hexS (b : UInt8) : Option Nat := if 48 ≤ b.toNat ∧ b.toNat ≤ 57 then some (b.toNat - 48) else if 97 ≤ b.toNat ∧ b.toNat ≤ 102 then some (b.toNat - 87) else none
def sfold (acc : Nat) : List UInt8 → Option Nat
  | [] => some acc
  | b :: r => match hexS b with
    | none => none
    | some d => sfold (acc * 16 + d) r
theorem sfold_snoc (b : UInt8) (l : List UInt8) : ∀ acc, sfold acc (l ++ [b]) = (sfold acc l).bind fun x => (hexS b).map fun d => x * 16 + d := by
  induction l with
  | nil => intro acc; simp only [List.nil_append, sfold]; cases hexS b <;> rfl
  | cons c l ih =>
    intro acc
    simp only [List.cons_append, sfold]
    cases hexS c with
    | none => rfl
    | some d => exact ih _
theorem hexS_dig (d : Nat) (h : d < 16) : hexS (Hex.hexDig d) = some d := by
  match d, h with
  | 0, _ => rfl
  | 1, _ => rfl
  | 2, _ => rfl
  | 3, _ => rfl
  | 4, _ => rfl
  | 5, _ => rfl
  | 6, _ => rfl
  | 7, _ => rfl
  | 8, _ => rfl
  | 9, _ => rfl
  | 10, _ => rfl
  | 11, _ => rfl
  | 12, _ => rfl
  | 13, _ => rfl
  | 14, _ => rfl
  | 15, _ => rfl
  | n + 16, h => omega
theorem sfold_hexL (u : Nat) : sfold 0 (Hex.hexL u) = some u := by
  induction u using Nat.strongRecOn with
  | _ u ih =>
    by_cases h : u < 16
    · rw [Hex.hexL_small h]
      simp only [sfold, hexS_dig u h]
      congr 1; omega
    · rw [Hex.hexL_step h, sfold_snoc, ih (u / 16) (by omega), hexS_dig _ (Nat.mod_lt _ (by decide))]
      simp only [Option.bind_some, Option.map_some]
      congr 1; omega
theorem hexL_len (k : Nat) : ∀ u, u < 16 ^ (k + 1) → (Hex.hexL u).length ≤ k + 1 ∧ 1 ≤ (Hex.hexL u).length := by
  induction k with
  | zero => intro u hu; rw [Hex.hexL_small (by simpa using hu)]; simp
  | succ k ih =>
    intro u hu
    by_cases h : u < 16
    · rw [Hex.hexL_small h]; simp
    · rw [Hex.hexL_step h, List.length_append, List.length_singleton]
      rw [Nat.pow_succ] at hu
      have := ih (u / 16) (by omega)
      omega
def isHex (l : List UInt8) : Prop := ∃ u, u < 4294967296 ∧ Hex.hexL u = l
open Classical in
noncomputable def hexR (l : List UInt8) : Int × Bool := if h : isHex l then ((Classical.choose h : Nat), true) else (0, false)
theorem hexL_inj {a b : Nat} (h : Hex.hexL a = Hex.hexL b) : a = b := by
  have e := sfold_hexL a
  rw [h, sfold_hexL b] at e
  exact (Option.some.inj e).symm
theorem hexR_of {u : Nat} (h : u < 4294967296) : hexR (Hex.hexL u) = ((u : Int), true) := by
  have hx : isHex (Hex.hexL u) := ⟨u, h, rfl⟩
  unfold hexR
  rw [dif_pos hx, hexL_inj (Classical.choose_spec hx).2]
theorem hexR_no {l : List UInt8} (h : ¬ isHex l) : hexR l = (0, false) := dif_neg h
/-- What the reading comes to behind so many digits. -/
def redH (l : List UInt8) (acc : Nat) (r : List UInt8) : Int × Bool := match sfold acc r with
  | none => (0, false)
  | some n => if Hex.hexL (n % 4294967296) = l then (((n % 4294967296 : Nat) : Int), true) else (0, false)
theorem redH_all (l : List UInt8) : redH l 0 l = hexR l := by
  unfold redH
  by_cases hx : isHex l
  · obtain ⟨u, hu, rfl⟩ := hx
    rw [sfold_hexL, hexR_of hu]
    simp only [Nat.mod_eq_of_lt hu, if_true]
  · rw [hexR_no hx]
    split
    · rfl
    · rename_i n _
      exact if_neg (fun e => hx ⟨n % 4294967296, Nat.mod_lt _ (by decide), e⟩)
theorem redH_dig (l : List UInt8) (acc d : Nat) (b : UInt8) (r : List UInt8) (h : hexS b = some d) : redH l acc (b :: r) = redH l (acc * 16 + d) r := by
  unfold redH
  simp only [sfold, h]
theorem redH_bad (l : List UInt8) (acc : Nat) (b : UInt8) (r : List UInt8) (h : hexS b = none) : redH l acc (b :: r) = (0, false) := by
  unfold redH
  simp only [sfold, h]

/-! ### itemText -/
def numL (n : Int) (hex : Bool) : List UInt8 := if hex = true then 36 :: Hex.hexL (n % 4294967296).toNat else 35 :: Lib.itoa n
def markL (k : Int) : List UInt8 := if k = 1 then [126] else if k = 7 then [126] else if k = 2 then [58] else if k = 3 then [61] else if k = 8 then [61] else if k = 4 then [34] else if k = 5 then [94] else if k = 6 then [95] else if k = 9 then [38] else [37]
def itemText (it : It) : List UInt8 := if 0 < (cellsOf it).length then (if it.kind = 7 ∨ it.kind = 8 then markL it.kind ++ numL it.n it.hex else if it.kind = 9 then markL 9 ++ it.name ++ (35 :: Lib.itoa it.n) else if it.kind = 0 then markL 0 ++ Hex.hexL it.raw.toNat else markL it.kind ++ it.name) else []
theorem itoa_len32 {n : Int} (h : -2147483648 ≤ n ∧ n ≤ 2147483647) : (Lib.itoa n).length ≤ 21 := Lib.itoa_length_le n (by omega) (by omega)
theorem hexL_len32 {u : Nat} (h : u < 4294967296) : (Hex.hexL u).length ≤ 8 := (hexL_len 7 u h).1
theorem kind_of_ok (it : It) (h : 0 < (cellsOf it).length) : 0 ≤ it.kind ∧ it.kind ≤ 9 := by
  by_cases h1 : 0 ≤ it.kind ∧ it.kind ≤ 9
  · exact h1
  · exfalso
    have e : cellsOf it = [] := by
      unfold cellsOf
      rw [if_neg (by omega), if_neg (by omega), if_neg (by omega), if_neg (by omega), if_neg]
      rintro ⟨h2, _⟩
      unfold tagOf at h2
      rw [if_neg (by omega), if_neg (by omega), if_neg (by omega), if_neg (by omega), if_neg (by omega), if_neg (by omega)] at h2
      omega
    rw [e] at h
    simp at h
theorem markL_len (k : Int) : (markL k).length = 1 := by
  unfold markL
  repeat' split
  all_goals rfl

/-! ### spec_l06Mark -/
theorem spec_l06Mark_ev (x : Int) : Ev (fun k => spec_l06Mark.f k x) (toB (markL x)) := by
  have j1 : ∀ b : Bool, (b = true ↔ x = 3 ∨ x = 8) → x ≠ 1 → x ≠ 7 → x ≠ 2 → Ev (fun k => spec_l06Mark.j1 k x b) (toB (markL x)) := by
    intro b hb h1 h7 h2
    refine Ev.step (fun k => by rw [spec_l06Mark.j1]) ?_
    unfold markL
    rw [if_neg h1, if_neg h7, if_neg h2]
    refine ev_ite (fun h => ev_ret ?_) (fun h => ?_)
    · rcases hb.1 h with e | e
      · rw [if_pos e]; rfl
      · rw [if_neg (by omega), if_pos e]; rfl
    · have h3 : x ≠ 3 := fun e => h (hb.2 (.inl e))
      have h8 : x ≠ 8 := fun e => h (hb.2 (.inr e))
      rw [if_neg h3, if_neg h8]
      refine ev_ite (fun h => ev_ret (by rw [if_pos h]; rfl)) (fun h4 => ?_)
      rw [if_neg h4]
      refine ev_ite (fun h => ev_ret (by rw [if_pos h]; rfl)) (fun h5 => ?_)
      rw [if_neg h5]
      refine ev_ite (fun h => ev_ret (by rw [if_pos h]; rfl)) (fun h6 => ?_)
      rw [if_neg h6]
      refine ev_ite (fun h => ev_ret (by rw [if_pos h]; rfl)) (fun h9 => ev_ret ?_)
      rw [if_neg h9]; rfl
  have j0 : ∀ b : Bool, (b = true ↔ x = 1 ∨ x = 7) → Ev (fun k => spec_l06Mark.j0 k x b) (toB (markL x)) := by
    intro b hb
    refine Ev.step (fun k => by rw [spec_l06Mark.j0]) ?_
    refine ev_ite (fun h => ev_ret ?_) (fun h => ?_)
    · unfold markL
      rcases hb.1 h with e | e
      · rw [if_pos e]; rfl
      · rw [if_neg (by omega), if_pos e]; rfl
    · have h1 : x ≠ 1 := fun e => h (hb.2 (.inl e))
      have h7 : x ≠ 7 := fun e => h (hb.2 (.inr e))
      refine ev_ite (fun h2 => ev_ret ?_) (fun h2 => ?_)
      · unfold markL
        rw [if_neg h1, if_neg h7, if_pos h2]; rfl
      · refine ev_ite (fun h3 => j1 _ ?_ h1 h7 h2) (fun h3 => j1 _ ?_ h1 h7 h2)
        · rw [beq_iff_eq]; omega
        · rw [beq_iff_eq]; omega
  refine ev_ite (fun h => j0 _ ?_) (fun h => j0 _ ?_)
  · rw [beq_iff_eq]; omega
  · rw [beq_iff_eq]; omega

/-! ### spec_HexText -/
theorem spec_HexText_l0 (n : Nat) : ∀ (u : Nat) (acc : List UInt8), u < 16 ^ n → acc.length + n ≤ 100 → u ≤ 4294967295 →
    Ev (fun k => spec_HexText.l0 k (toB acc) (u : Int)) (toB (hexN u ++ acc)) := by
  have stop : ∀ acc : List UInt8, Ev (fun k => spec_HexText.l0 k (toB acc) ((0 : Nat) : Int)) (toB (hexN 0 ++ acc)) := by
    intro acc
    refine Ev.step (fun k => by rw [spec_HexText.l0]) ?_
    exact ev_neg (by omega) (ev_ret rfl)
  induction n with
  | zero =>
    intro u acc hu ha h1
    obtain rfl : u = 0 := by rw [Nat.pow_zero] at hu; omega
    exact stop acc
  | succ n ih =>
    intro u acc hu ha h1
    by_cases hz : u = 0
    · subst hz; exact stop acc
    rw [Nat.pow_succ] at hu
    have hd : u % 16 < 16 := Nat.mod_lt _ (by decide)
    have e := ih (u / 16) (Hex.hexDig (u % 16) :: acc) (by omega) (by rw [List.length_cons]; omega) (by omega)
    refine Ev.step (fun k => by rw [spec_HexText.l0]) ?_
    rw [tmod16, tdiv16, w64 (x := ((u % 16 : Nat) : Int) + 1) (by omega) (by omega), show ((u % 16 : Nat) : Int) + 1 = ((u % 16 + 1 : Nat) : Int) by omega, Int.toNat_natCast, Int.toNat_natCast, hex_cut (u % 16) hd, toB_append', toB_size, toB_size, w64 (x := ((u / 16 : Nat) : Int)) (by omega) (by omega)]
    refine ev_pos (by omega) (ev_pos (by omega) (ev_pos (by omega) (ev_pos (by omega) (ev_pos (by rw [List.length_singleton]; omega) ?_))))
    rw [hexN_step u hz, List.append_assoc]
    exact e
theorem spec_HexText_ev (u : Nat) (h1 : u ≤ 4294967295) : Ev (fun k => spec_HexText.f k (u : Int)) (toB (Hex.hexL u)) := by
  refine ev_ite (fun h => ev_ret ?_) (fun h => ?_)
  · obtain rfl : u = 0 := by omega
    rw [Hex.hexL_small (by decide)]; rfl
  · rw [w64 (by omega) (by omega)]
    refine ev_to (spec_HexText_l0 8 u [] (by omega) (by decide) h1) ?_
    rw [List.append_nil, hexN, if_neg (by omega)]

/-! ### spec_DecText -/
theorem spec_DecText_l0 (x0 : Int) (n : Nat) : ∀ (m : Int) (acc : List UInt8), m.natAbs < 10 ^ n → acc.length + n ≤ 100 → -9223372036854775808 ≤ m → m ≤ 9223372036854775807 →
    Ev (fun k => spec_DecText.l0 k x0 (toB acc) m) (toB ((if x0 < 0 then [45] else []) ++ decL m.natAbs ++ acc)) := by
  have stop : ∀ acc : List UInt8, acc.length ≤ 100 → Ev (fun k => spec_DecText.l0 k x0 (toB acc) 0) (toB ((if x0 < 0 then [45] else []) ++ decL 0 ++ acc)) := by
    intro acc ha
    refine Ev.step (fun k => by rw [spec_DecText.l0]) ?_
    refine ev_pos rfl (ev_ite (fun h => ev_pos (by rw [toB_size]; omega) (ev_ret ?_)) (fun h => ev_ret ?_))
    · rw [if_pos h, show (⟨#[45]⟩ : ByteArray) = toB [45] from rfl, toB_append']; rfl
    · rw [if_neg h]; rfl
  induction n with
  | zero =>
    intro m acc hm ha h0 h1
    obtain rfl : m = 0 := by rw [Nat.pow_zero] at hm; omega
    exact stop acc (by omega)
  | succ n ih =>
    intro m acc hm ha h0 h1
    by_cases hz : m = 0
    · subst hz; exact stop acc (by omega)
    rw [Nat.pow_succ] at hm
    obtain ⟨u, hu⟩ : ∃ u, u = m.natAbs := ⟨_, rfl⟩
    have hd : u % 10 < 10 := Nat.mod_lt _ (by decide)
    have hcut := dec_cut (u % 10) hd
    have hgo : ∀ m' : Int, m'.natAbs = u / 10 → -9223372036854775808 ≤ m' → m' ≤ 9223372036854775807 → Ev (fun k => spec_DecText.l0 k x0 (toB (UInt8.ofNat (48 + u % 10) :: acc)) m') (toB ((if x0 < 0 then [45] else []) ++ decL m.natAbs ++ acc)) := by
      intro m' hm' g0 g1
      have e := ih m' (UInt8.ofNat (48 + u % 10) :: acc) (by rw [hm']; omega) (by rw [List.length_cons]; omega) g0 g1
      rw [hm'] at e
      rw [← hu, decL_step u (by omega)]
      refine ev_to e ?_
      simp only [List.append_assoc, List.singleton_append]
    refine Ev.step (fun k => by rw [spec_DecText.l0]) ?_
    refine ev_neg hz ?_
    rcases Int.natAbs_eq m with e | e
    · rw [← hu] at e
      rw [e, tmod_pos, tdiv_pos, w64 (x := ((u % 10 : Nat) : Int) + 1) (by omega) (by omega), show ((u % 10 : Nat) : Int) + 1 = ((u % 10 + 1 : Nat) : Int) by omega, Int.toNat_natCast, Int.toNat_natCast, hcut, toB_append', toB_size, toB_size, w64 (x := ((u / 10 : Nat) : Int)) (by omega) (by omega)]
      refine ev_neg (by omega) (ev_pos (by omega) (ev_pos (by omega) (ev_pos (by omega) (ev_pos (by rw [List.length_singleton]; omega) ?_))))
      rw [e] at hgo
      exact hgo _ (by omega) (by omega) (by omega)
    · rw [← hu] at e
      by_cases hm0 : u % 10 = 0
      · rw [e, tmod_neg, tdiv_neg, w64 (x := -((u % 10 : Nat) : Int) + 1) (by omega) (by omega), show -((u % 10 : Nat) : Int) + 1 = ((u % 10 + 1 : Nat) : Int) by omega, show -((u % 10 : Nat) : Int) = ((u % 10 : Nat) : Int) by omega, Int.toNat_natCast, Int.toNat_natCast, hcut, toB_append', toB_size, toB_size, w64 (x := -((u / 10 : Nat) : Int)) (by omega) (by omega)]
        refine ev_neg (by omega) (ev_pos (by omega) (ev_pos (by omega) (ev_pos (by omega) (ev_pos (by rw [List.length_singleton]; omega) ?_))))
        rw [e] at hgo
        exact hgo _ (by omega) (by omega) (by omega)
      · rw [e, tmod_neg, tdiv_neg, w64 (x := - -((u % 10 : Nat) : Int)) (by omega) (by omega), Int.neg_neg, w64 (x := ((u % 10 : Nat) : Int) + 1) (by omega) (by omega), show ((u % 10 : Nat) : Int) + 1 = ((u % 10 + 1 : Nat) : Int) by omega, Int.toNat_natCast, Int.toNat_natCast, hcut, toB_append', toB_size, toB_size, w64 (x := -((u / 10 : Nat) : Int)) (by omega) (by omega)]
        refine ev_pos (by omega) (ev_pos (by omega) (ev_pos (by omega) (ev_pos (by omega) (ev_pos (by rw [List.length_singleton]; omega) ?_))))
        rw [e] at hgo
        exact hgo _ (by omega) (by omega) (by omega)
theorem spec_DecText_ev (n : Int) (h0 : -9223372036854775808 ≤ n) (h1 : n ≤ 9223372036854775807) : Ev (fun k => spec_DecText.f k n) (toB (Lib.itoa n)) := by
  refine ev_ite (fun h => ev_ret ?_) (fun h => ?_)
  · subst h
    rw [show Lib.itoa 0 = Lib.decDigits 0 from Lib.itoa_nonneg 0, Lib.decDigits_one (by decide)]; rfl
  · refine ev_to (spec_DecText_l0 n 20 n [] (by omega) (by decide) h0 h1) ?_
    rw [itoa_decL n h, List.append_nil]

/-! ### spec_ItemText -/
theorem spec_ItemText_ev (it : It) (hn : -2147483648 ≤ it.n ∧ it.n ≤ 2147483647) (hr : 0 ≤ it.raw ∧ it.raw ≤ 4294967295) (hl : it.name.length ≤ 1048576) :
    Ev (fun k => spec_ItemText.f k it.kind (toB it.name) it.n it.hex it.raw) (toB (itemText it)) := by
  refine ev_bind (spec_ItemOk_ev it hn) ?_
  unfold itemText
  by_cases hok : 0 < (cellsOf it).length
  · rw [if_pos hok]
    refine ev_pos (decide_eq_true hok) (ev_bind (spec_l06Mark_ev it.kind) ?_)
    have hml := markL_len it.kind
    have hid := itoa_len32 hn
    have hm : it.n % 4294967296 = (((it.n % 4294967296).toNat : Nat) : Int) := by omega
    have hhl := hexL_len32 (u := (it.n % 4294967296).toNat) (by omega)
    have hrr : it.raw = ((it.raw.toNat : Nat) : Int) := by omega
    have hrl := hexL_len32 (u := it.raw.toNat) (by omega)
    have j0 : ∀ b : Bool, (b = true ↔ it.kind = 7 ∨ it.kind = 8) → Ev (fun k => spec_ItemText.j0 k (toB (markL it.kind)) it.kind b it.kind (toB it.name) it.n it.hex it.raw) (toB (if it.kind = 7 ∨ it.kind = 8 then markL it.kind ++ numL it.n it.hex else if it.kind = 9 then markL 9 ++ it.name ++ (35 :: Lib.itoa it.n) else if it.kind = 0 then markL 0 ++ Hex.hexL it.raw.toNat else markL it.kind ++ it.name)) := by
      intro b hb
      refine Ev.step (fun k => by rw [spec_ItemText.j0]) ?_
      have ed := spec_DecText_ev it.n (by omega) (by omega)
      rw [w64 (x := it.n) (by omega) (by omega)]
      refine ev_ite (fun h => ?_) (fun h => ?_)
      · rw [if_pos (hb.1 h)]
        unfold numL
        refine ev_ite (fun hx => ?_) (fun hx => ?_)
        · rw [if_pos hx, hm]
          refine ev_pos (by rw [toB_size]; omega) (ev_bind (spec_HexText_ev _ (by omega)) (ev_pos ?_ (ev_ret ?_)))
          · rw [show (⟨#[36]⟩ : ByteArray) = toB [36] from rfl, toB_append', toB_size, toB_size, List.length_append, List.length_singleton]; omega
          · rw [show (⟨#[36]⟩ : ByteArray) = toB [36] from rfl, toB_append', toB_append', List.append_assoc, Int.toNat_natCast]; rfl
        · rw [if_neg hx]
          refine ev_pos (by rw [toB_size]; omega) (ev_bind ed (ev_pos ?_ (ev_ret ?_)))
          · rw [show (⟨#[35]⟩ : ByteArray) = toB [35] from rfl, toB_append', toB_size, toB_size, List.length_append, List.length_singleton]; omega
          · rw [show (⟨#[35]⟩ : ByteArray) = toB [35] from rfl, toB_append', toB_append', List.append_assoc]; rfl
      · rw [if_neg (fun e => h (hb.2 e))]
        refine ev_ite (fun h9 => ?_) (fun h9 => ?_)
        · rw [if_pos h9, ← h9]
          refine ev_pos (by rw [toB_size, toB_size]; omega) (ev_pos ?_ (ev_bind ed (ev_pos ?_ (ev_ret ?_))))
          · rw [toB_append', toB_size, List.length_append]; omega
          · rw [show (⟨#[35]⟩ : ByteArray) = toB [35] from rfl, toB_append', toB_append', toB_size, toB_size, List.length_append, List.length_append, List.length_singleton]; omega
          · rw [show (⟨#[35]⟩ : ByteArray) = toB [35] from rfl, toB_append', toB_append', toB_append']; simp
        · rw [if_neg h9]
          refine ev_ite (fun h0 => ?_) (fun h0 => ?_)
          · rw [if_pos h0, ← h0, hrr]
            refine ev_bind (spec_HexText_ev _ (by omega)) (ev_pos ?_ (ev_ret ?_))
            · rw [toB_size, toB_size]; omega
            · rw [toB_append', Int.toNat_natCast]
          · rw [if_neg h0]
            refine ev_pos (by rw [toB_size, toB_size]; omega) (ev_ret ?_)
            rw [toB_append']
    refine ev_ite (fun h => j0 _ ?_) (fun h => j0 _ ?_)
    · rw [beq_iff_eq]; omega
    · rw [beq_iff_eq]; omega
  · rw [if_neg hok]
    exact ev_neg (by simpa using hok) (ev_ret rfl)

/-! ### impl_nameTag -/
theorem impl_nameTag_eq (k : Int) : impl_nameTag.f k = some (tagOf k) := by
  unfold impl_nameTag.f tagOf
  repeat' split
  all_goals rfl

/-! ### strings_IndexByte -/
theorem strings_IndexByte_eq (b : UInt8) : strings_IndexByte.f lettersB (b.toNat : Int) = some (lo b) := by
  unfold strings_IndexByte.f stringslite_IndexByte.f lo
  simp

/-! ### impl_LetterOf -/
theorem impl_LetterOf_eq (b : UInt8) : impl_LetterOf.f (b.toNat : Int) = some (lo b) := by
  unfold impl_LetterOf.f
  have e : impl_letters.f = some lettersB := rfl
  rw [e]
  simp only [Option.bind_some]
  rw [strings_IndexByte_eq]
  rfl

/-! ### impl_within -/
theorem impl_within_eq (a b c : Int) : impl_within.f a b c = some (decide (b ≤ a ∧ a ≤ c)) := by
  unfold impl_within.f
  by_cases h : b ≤ a
  · rw [if_pos h]; simp [h]
  · rw [if_neg h]; simp [h]

/-! ### impl_NameOk -/
theorem impl_NameOk_l0 (s : ByteArray) (hs : s.size ≤ 1048576) (d : Nat) : ∀ i : Nat, i + d = s.size → Ev (fun k => impl_NameOk.l0 k s (s.size : Int) (i : Int)) ((s.data.toList.drop i).all (fun b => decide (1 ≤ lo b)) && decide (1 ≤ s.size ∧ s.size ≤ 24)) := by
  induction d with
  | zero =>
    intro i hi
    refine Ev.step (fun k => by rw [impl_NameOk.l0]) ?_
    refine ev_neg (by omega) (ev_bind (ev_eq (impl_within_eq _ _ _)) (ev_ret ?_))
    rw [List.drop_of_length_le (by rw [← size_eq]; omega), List.all_nil, Bool.true_and]
    rw [Bool.eq_iff_iff, decide_eq_true_eq, decide_eq_true_eq]; omega
  | succ d ih =>
    intro i hi
    have hlt : i < s.size := by omega
    refine Ev.step (fun k => by rw [impl_NameOk.l0]) ?_
    refine ev_pos (by omega) (ev_pos (by omega) (ev_pos (by omega) (ev_bind (ev_eq (by rw [bt_at hlt]; exact impl_LetterOf_eq _)) ?_)))
    rw [drop_cons hlt, List.all_cons]
    by_cases h : 1 ≤ lo s[i]
    · refine ev_neg (by omega) ?_
      rw [w64 (by omega) (by omega), show ((i : Int) + 1) = ((i + 1 : Nat) : Int) by omega, decide_eq_true h, Bool.true_and]
      exact ih (i + 1) (by omega)
    · refine ev_pos (by omega) (ev_ret ?_)
      rw [decide_eq_false h, Bool.false_and, Bool.false_and]
theorem impl_NameOk_ev (s : ByteArray) (hs : s.size ≤ 1048576) : Ev (fun k => impl_NameOk.f k s) (okName s.data.toList) := by
  refine ev_to (impl_NameOk_l0 s hs s.size 0 (by omega)) ?_
  unfold okName
  rw [← size_eq, List.drop_zero, Bool.eq_iff_iff]
  simp only [Bool.and_eq_true, decide_eq_true_eq]
  exact ⟨fun h => ⟨h.2, h.1⟩, fun h => ⟨h.2, h.1⟩⟩

/-! ### impl_WidthOf -/
theorem impl_WidthOf_eq (k : Int) : impl_WidthOf.f k = some (widthOf k) := by
  unfold impl_WidthOf.f widthOf
  simp only [impl_within_eq, Option.bind_some, decide_eq_true_eq]
  by_cases h1 : 0 ≤ k ∧ k ≤ 7
  · rw [if_pos h1, if_pos h1]
  rw [if_neg h1, if_neg h1]
  by_cases h2 : 8 ≤ k ∧ k ≤ 15
  · rw [if_pos h2, if_pos h2]
  rw [if_neg h2, if_neg h2]
  by_cases h3 : 16 ≤ k ∧ k ≤ 47
  · rw [if_pos h3, if_pos h3]
  rw [if_neg h3, if_neg h3]

/-! ### impl_BitsOf -/
theorem impl_BitsOf_eq (k : Int) : impl_BitsOf.f k = some (bitsOf k) := by
  unfold impl_BitsOf.f
  simp only [impl_WidthOf_eq, Option.bind_some]
  rcases width_cases k with ⟨e1, e2, h⟩ | ⟨e1, e2, h⟩ | ⟨e1, e2, h⟩ | ⟨e1, e2, h⟩ <;> rw [e1, e2] <;> simp
  · omega
  · omega
  · omega

/-! ### impl_PackOne -/
theorem impl_PackOne_l0 (s : ByteArray) (hs : s.size ≤ 1000000) (hb : ∀ b ∈ s.data.toList, 1 ≤ lo b) (d : Nat) : ∀ (i : Nat) (f left : Int), i + d = s.size → 0 ≤ left → left ≤ 28 → 0 ≤ f → f % 2 ^ left.toNat = 0 → f + 2 ^ left.toNat ≤ 268435456 →
    Ev (fun k => impl_PackOne.l0 k s f left (i : Int) (s.size : Int) (i : Int)) (f + (one (s.data.toList.drop i) left).1, (i : Int) + ((one (s.data.toList.drop i) left).2 : Int)) := by
  induction d with
  | zero =>
    intro i f left hi h0 h1 h2 hm h3
    have := two_pow_pos left.toNat
    refine Ev.step (fun k => by rw [impl_PackOne.l0]) ?_
    refine ev_neg (by omega) (ev_ret ?_)
    rw [List.drop_of_length_le (by rw [← size_eq]; omega), one]
    simp
  | succ d ih =>
    intro i f left hi h0 h1 h2 hm0 h3
    have hlt : i < s.size := by omega
    have hp := two_pow_pos left.toNat
    have hl1 := hb s[i] (by rw [getB hlt]; exact List.getElem_mem _)
    have hlr := lo_range s[i]
    have w := width_in (k := lo s[i]) (by omega) (by omega)
    rw [drop_cons hlt, one]
    refine Ev.step (fun k => by rw [impl_PackOne.l0]) ?_
    refine ev_pos (by omega) (ev_pos (by omega) (ev_pos (by omega) (ev_bind (ev_eq (by rw [bt_at hlt]; exact impl_LetterOf_eq _)) (ev_bind (ev_eq (impl_WidthOf_eq _)) ?_))))
    by_cases hw : widthOf (lo s[i]) > left
    · rw [if_pos hw]
      refine ev_pos hw (ev_ret ?_)
      simp
    · rw [if_neg hw]
      have e : left.toNat = (widthOf (lo s[i])).toNat + (left - widthOf (lo s[i])).toNat := by omega
      have hq := two_pow_pos (left - widthOf (lo s[i])).toNat
      have hm : (bitsOf (lo s[i]) + 1) * 2 ^ (left - widthOf (lo s[i])).toNat ≤ 2 ^ left.toNat := by
        rw [e, Int.pow_add]; exact Int.mul_le_mul_of_nonneg_right (by omega) (by omega)
      rw [Int.add_mul] at hm
      have hn := Int.mul_nonneg w.2.2.1 (show 0 ≤ (2 : Int) ^ (left - widthOf (lo s[i])).toNat by omega)
      refine ev_neg hw (ev_bind (ev_eq (impl_WidthOf_eq _)) (ev_bind (ev_eq (impl_BitsOf_eq _)) (ev_pos (by rw [w64 (by omega) (by omega)]; omega) ?_)))
      rw [w64 (x := left - widthOf (lo s[i])) (by omega) (by omega), shl_u32 w.2.2.1 (by omega) (by omega), w64 (by omega) (by omega), show ((i : Int) + 1) = ((i + 1 : Nat) : Int) by omega]
      rw [or_u32 left.toNat (by omega) hm0 (by omega) (by omega) (by omega)]
      refine ev_to (ih (i + 1) _ _ (by omega) (by omega) (by omega) (by omega) ?_ (by omega)) ?_
      · have e2 : (f + bitsOf (lo s[i]) * 2 ^ (left - widthOf (lo s[i])).toNat) = (2 : Int) ^ (left - widthOf (lo s[i])).toNat * (2 ^ (widthOf (lo s[i])).toNat * (f / 2 ^ left.toNat) + bitsOf (lo s[i])) := by
          have h4 := Int.mul_ediv_add_emod f (2 ^ left.toNat)
          rw [hm0, e, Int.pow_add] at h4
          rw [Int.mul_add, Int.mul_comm (bitsOf _), e, Int.pow_add]
          rw [← Int.mul_assoc, Int.mul_comm (2 ^ (left - widthOf (lo s[i])).toNat) (2 ^ (widthOf (lo s[i])).toNat)]
          omega
        rw [e2, Int.mul_emod_right]
      · simp only [Prod.mk.injEq]
        constructor <;> omega
theorem impl_PackOne_ev (l : List UInt8) (hl : l.length ≤ 1048576) : Ev (fun k => impl_PackOne.f k (toB l)) (if okName l = true then ((one l 28).1, ((one l 28).2 : Int)) else (0, 0)) := by
  refine ev_bind (impl_NameOk_ev (toB l) (by rw [toB_size]; omega)) ?_
  rw [toB_data]
  by_cases h : okName l = true
  · rw [if_pos h]
    obtain ⟨h1, h2, h3⟩ := (okName_iff l).1 h
    refine ev_pos h (ev_to (impl_PackOne_l0 (toB l) (by rw [toB_size]; omega) h3 l.length 0 0 28 (by rw [toB_size]; omega) (by omega) (by omega) (by omega) (by simp) (by decide)) ?_)
    rw [toB_data]; simp
  · rw [if_neg h]
    exact ev_neg h (ev_ret rfl)

/-! ### impl_Pack -/
theorem impl_Pack_l0 (n : Nat) : ∀ (l : List UInt8) (out : List Int), l.length ≤ n → n ≤ 24 → (∀ b ∈ l, 1 ≤ lo b) → out.length + l.length ≤ 1000000 → Ev (fun k => impl_Pack.l0 k (toB l) out) (out ++ packF l.length l) := by
  have stop : ∀ out : List Int, Ev (fun k => impl_Pack.l0 k (toB []) out) (out ++ packF 0 []) := by
    intro out
    refine Ev.step (fun k => by rw [impl_Pack.l0]) ?_
    refine ev_bind (impl_NameOk_ev _ (by decide)) (ev_neg (by decide) (ev_ret ?_))
    simp [packF]
  induction n with
  | zero =>
    intro l out hl hn hb ho
    have : l = [] := List.eq_nil_of_length_eq_zero (by omega)
    subst this
    exact stop out
  | succ n ih =>
    intro l out hl hn hb ho
    by_cases h : l = []
    · subst h; exact stop out
    · have h1 := one_pos h (left := 28) (by omega)
      have h2 := one_range l 28 (by omega) (by omega) hb
      have hok : okName l = true := (okName_iff l).2 ⟨List.length_pos_iff.2 h, by omega, hb⟩
      have hone := impl_PackOne_ev l (by omega)
      rw [if_pos hok] at hone
      refine Ev.step (fun k => by rw [impl_Pack.l0]) ?_
      refine ev_bind (impl_NameOk_ev _ (by rw [toB_size]; omega)) (ev_pos (by rw [toB_data]; exact hok) (ev_bind hone (ev_pos (by omega) (ev_pos (by simp only; omega) (ev_pos (by rw [toB_size]; simp only; omega) ?_)))))
      rw [packF_step h, extract_eq, toB_data, toB_size, List.take_of_length_le (by omega)]
      simp only [Int.toNat_natCast]
      refine ev_to (ih (l.drop (one l 28).2) (out ++ [(one l 28).1]) (by rw [List.length_drop]; omega) (by omega) (fun b hb' => hb b (List.mem_of_mem_drop hb')) (by simp only [List.length_append, List.length_drop, List.length_cons, List.length_nil]; omega)) ?_
      simp
theorem impl_Pack_ev (l : List UInt8) (hl : l.length ≤ 1048576) : Ev (fun k => impl_Pack.f k (toB l)) (pack l) := by
  unfold pack
  by_cases h : okName l = true
  · rw [if_pos h]
    obtain ⟨h1, h2, h3⟩ := (okName_iff l).1 h
    exact impl_Pack_l0 l.length l [] (by omega) h2 h3 (by simp; omega)
  · rw [if_neg h]
    refine Ev.step (g := fun k => impl_Pack.l0 k (toB l) []) (fun k => by rw [impl_Pack.l0]) ?_
    exact ev_bind (impl_NameOk_ev _ (by rw [toB_size]; omega)) (ev_neg (by rw [toB_data]; exact h) (ev_ret rfl))

/-! ### impl_numberCells -/
theorem impl_numberCells_eq (n : Int) (hex : Bool) (s l : Int) (hn : -2147483648 ≤ n ∧ n ≤ 2147483647) (hs : 0 ≤ s ∧ s ≤ 15) (hl : 0 ≤ l ∧ l ≤ 15) : impl_numberCells.f n hex s l = some (numCells n hex s l) := by
  unfold impl_numberCells.f numCells bitOf
  have e0 : (n % 4294967296 * 32) % 4294967296 = n % 134217728 * 32 := by omega
  have em : n % 134217728 * 32 % 2 ^ 5 = 0 := by omega
  rw [e0]
  cases hex
  · simp only [Bool.false_eq_true, if_false]
    rw [or_u32 (x := n % 134217728 * 32) (y := 0) 0 (by omega) (by simp) (by omega) (by omega) (by omega), or_u32 (x := n % 134217728 * 32 + 0) (y := s) 4 (by omega) (by omega) hs.1 (by omega) (by omega), or_u32 (x := 0) (y := l) 4 (by omega) (by omega) hl.1 (by omega) (by omega)]
    by_cases h : -67108864 ≤ n ∧ n ≤ 67108863
    · rw [if_pos h.1, if_pos h.2, if_pos h]
    · rw [if_neg h]
      by_cases h1 : n ≥ -67108864
      · rw [if_pos h1, if_neg (by omega)]
      · rw [if_neg h1]
  · simp only [if_true]
    rw [or_u32 (x := n % 134217728 * 32) (y := 16) 5 (by omega) em (by omega) (by omega) (by omega), or_u32 (x := n % 134217728 * 32 + 16) (y := s) 4 (by omega) (by omega) hs.1 (by omega) (by omega), or_u32 (x := 16) (y := l) 4 (by omega) (by omega) hl.1 (by omega) (by omega)]
    by_cases h : -67108864 ≤ n ∧ n ≤ 67108863
    · rw [if_pos h.1, if_pos h.2, if_pos h]
    · rw [if_neg h]
      by_cases h1 : n ≥ -67108864
      · rw [if_pos h1, if_neg (by omega)]
      · rw [if_neg h1]

/-! ### impl_CellsOf -/
theorem impl_CellsOf_l0 (fs : List Int) (hf : ∀ f ∈ fs, 0 ≤ f ∧ f < 268435456) (hl : fs.length ≤ 24) (d : Nat) : ∀ (i : Nat) (t : Int) (out : List Int), i + d = fs.length → 0 ≤ t ∧ t ≤ 15 → out.length ≤ i →
    Ev (fun k => impl_CellsOf.l0 k t out fs (fs.length : Int) (i : Int)) (out ++ word t (fs.drop i)) := by
  induction d with
  | zero =>
    intro i t out hi ht ho
    refine Ev.step (fun k => by rw [impl_CellsOf.l0]) ?_
    refine ev_neg (by omega) (ev_ret ?_)
    rw [List.drop_of_length_le (by omega), word, List.append_nil]
  | succ d ih =>
    intro i t out hi ht ho
    have hlt : i < fs.length := by omega
    have hfi := hf fs[i] (List.getElem_mem _)
    refine Ev.step (fun k => by rw [impl_CellsOf.l0]) ?_
    refine ev_pos (by omega) (ev_pos (by omega) (ev_pos (by omega) (ev_pos (by omega) ?_)))
    rw [rd_nat hlt, w64 (by omega) (by omega), show ((i : Int) + 1) = ((i + 1 : Nat) : Int) by omega]
    rw [show fs[i] * 16 % 4294967296 = fs[i] * 16 by omega, or_u32 4 (by omega) (by omega) ht.1 (by omega) (by omega)]
    refine ev_to (ih (i + 1) 0 _ (by omega) (by omega) (by rw [List.length_append, List.length_singleton]; omega)) ?_
    rw [word_zero, List.drop_eq_getElem_cons hlt, word, List.append_assoc]
    rfl
theorem impl_CellsOf_ev (it : It) (hn : -2147483648 ≤ it.n ∧ it.n ≤ 2147483647) (hs : it.name.length ≤ 1048576) : Ev (fun k => impl_CellsOf.f k it.kind (toB it.name) it.n it.hex it.raw) (cellsOf it) := by
  obtain ⟨kind, name, n, hex, raw⟩ := it
  simp only at hn hs ⊢
  have hp := pack_length name
  have hpf : ∀ f ∈ pack name, 0 ≤ f ∧ f < 268435456 := fun f hf => (pack_fields f hf).2
  have ht := tagOf_range kind
  have rest : ∀ b : Bool, (b = true → 0 < tagOf kind ∧ n = 0 ∧ hex = false ∧ raw = 0) → (0 < tagOf kind ∧ n = 0 ∧ hex = false ∧ raw = 0 → b = true) → Ev (fun k => impl_CellsOf.j0 k (tagOf kind) b kind (toB name) n hex raw) (cellsOf ⟨kind, name, n, hex, raw⟩) := by
    intro b hb1 hb2
    refine Ev.step (fun k => by rw [impl_CellsOf.j0]) ?_
    by_cases hb : b = true
    · obtain ⟨q1, q2⟩ := hb1 hb
      have := tagOf_pos q1
      have e : cellsOf ⟨kind, name, n, hex, raw⟩ = word (tagOf kind) (pack name) := by unfold cellsOf; simp only; rw [if_neg (by omega), if_neg (by omega), if_neg (by omega), if_neg (by omega), if_pos ⟨q1, q2⟩]
      rw [e]
      refine ev_pos hb (ev_bind (impl_Pack_ev name hs) ?_)
      have := impl_CellsOf_l0 (pack name) hpf hp (pack name).length 0 (tagOf kind) [] (Nat.zero_add _) (by omega) (Nat.le_refl _)
      simpa using this
    · refine ev_neg hb ?_
      by_cases k0 : kind = 0
      · have e : cellsOf ⟨kind, name, n, hex, raw⟩ = if name = [] ∧ n = 0 ∧ hex = false then [raw] else [] := by unfold cellsOf; simp only; rw [if_pos k0]
        rw [e]
        refine ev_neg (by simp [k0]) (ev_neg (by simp [k0]) (ev_neg (by simp [k0]) ?_))
        by_cases h : name = [] ∧ n = 0 ∧ hex = false
        · refine ev_pos ?_ (ev_ret (if_pos h).symm)
          obtain ⟨h1, h2, h3⟩ := h
          rw [(toB_nil_iff name).2 h1, h2, h3, k0]; rfl
        · refine ev_neg ?_ (ev_ret (if_neg h).symm)
          intro hc
          simp only [Bool.and_eq_true, beq_iff_eq, Bool.not_eq_true'] at hc
          exact h ⟨(toB_nil_iff name).1 hc.2.1, hc.2.2.1, hc.2.2.2⟩
      by_cases k7 : kind = 7
      · have e : cellsOf ⟨kind, name, n, hex, raw⟩ = if name = [] ∧ raw = 0 then numCells n hex 8 2 else [] := by unfold cellsOf; simp only; rw [if_neg k0, if_pos k7]
        rw [e]
        by_cases h : name = [] ∧ raw = 0
        · refine ev_pos ?_ (ev_bind (ev_eq (impl_numberCells_eq n hex 8 2 hn (by omega) (by omega))) (ev_ret (if_pos h).symm))
          rw [(toB_nil_iff name).2 h.1, h.2, k7]; rfl
        · refine ev_neg ?_ (ev_neg (by simp [k7]) (ev_neg (by simp [k7]) (ev_neg (by simp [k7]) (ev_ret (if_neg h).symm))))
          intro hc
          simp only [Bool.and_eq_true, beq_iff_eq] at hc
          exact h ⟨(toB_nil_iff name).1 hc.2.1, hc.2.2⟩
      refine ev_neg (by simp [k7]) ?_
      by_cases k8 : kind = 8
      · have e : cellsOf ⟨kind, name, n, hex, raw⟩ = if name = [] ∧ raw = 0 then numCells n hex 6 5 else [] := by unfold cellsOf; simp only; rw [if_neg k0, if_neg k7, if_pos k8]
        rw [e]
        by_cases h : name = [] ∧ raw = 0
        · refine ev_pos ?_ (ev_bind (ev_eq (impl_numberCells_eq n hex 6 5 hn (by omega) (by omega))) (ev_ret (if_pos h).symm))
          rw [(toB_nil_iff name).2 h.1, h.2, k8]; rfl
        · refine ev_neg ?_ (ev_neg (by simp [k8]) (ev_neg (by simp [k8]) (ev_ret (if_neg h).symm)))
          intro hc
          simp only [Bool.and_eq_true, beq_iff_eq] at hc
          exact h ⟨(toB_nil_iff name).1 hc.2.1, hc.2.2⟩
      refine ev_neg (by simp [k8]) ?_
      by_cases k9 : kind = 9
      · have e : cellsOf ⟨kind, name, n, hex, raw⟩ = if hex = false ∧ raw = 0 ∧ (pack name).length = 1 then word 12 (pack name) ++ [n % 4294967296] else [] := by unfold cellsOf; simp only; rw [if_neg k0, if_neg k7, if_neg k8, if_pos k9]
        rw [e]
        by_cases h : hex = false ∧ raw = 0
        · refine ev_pos (by rw [h.1, h.2, k9]; rfl) (ev_bind (impl_Pack_ev name hs) ?_)
          by_cases h1 : (pack name).length = 1
          · obtain ⟨f, hf⟩ := List.length_eq_one_iff.1 h1
            have hff := hpf f (by rw [hf]; simp)
            refine ev_pos (by omega) (ev_pos (by omega) (ev_ret ?_))
            rw [if_pos ⟨h.1, h.2, h1⟩, hf]
            simp only [rd, Int.toNat_zero, List.getD_cons_zero, word, List.map_nil, List.singleton_append]
            rw [show f * 16 % 4294967296 = f * 16 by omega, or_u32 4 (by omega) (by omega) (by omega) (by omega) (by omega)]
          · exact ev_neg (by omega) (ev_ret (if_neg (fun h => h1 h.2.2)).symm)
        · refine ev_neg ?_ (ev_neg (by simp [k9]) (ev_ret (if_neg (fun hc => h ⟨hc.1, hc.2.1⟩)).symm))
          intro hc
          simp only [Bool.and_eq_true, beq_iff_eq, Bool.not_eq_true'] at hc
          exact h hc.2
      have e : cellsOf ⟨kind, name, n, hex, raw⟩ = [] := by unfold cellsOf; simp only; rw [if_neg k0, if_neg k7, if_neg k8, if_neg k9, if_neg (fun h => hb (hb2 h))]
      rw [e]
      exact ev_neg (by simp [k9]) (ev_neg (by simp [k0]) (ev_ret rfl))
  unfold impl_CellsOf.f
  refine ev_bind (ev_eq (impl_nameTag_eq kind)) ?_
  by_cases hp0 : tagOf kind > 0
  · refine ev_pos hp0 (rest _ ?_ ?_)
    · intro h
      simp only [Bool.and_eq_true, beq_iff_eq, Bool.not_eq_true'] at h
      exact ⟨hp0, h⟩
    · intro h
      simp [h.2.1, h.2.2.1, h.2.2.2]
  · exact ev_neg hp0 (rest false (by simp) (fun h => absurd h.1 hp0))

/-! ### impl_ItemOk -/
theorem impl_ItemOk_ev (it : It) (hn : -2147483648 ≤ it.n ∧ it.n ≤ 2147483647) (hs : it.name.length ≤ 1048576) : Ev (fun k => impl_ItemOk.f k it.kind (toB it.name) it.n it.hex it.raw) (decide (0 < (cellsOf it).length)) := by
  refine ev_bind (impl_CellsOf_ev it hn hs) (ev_ret ?_)
  rw [Bool.eq_iff_iff, decide_eq_true_eq, decide_eq_true_eq]; omega

/-! ### impl_HexText -/
theorem impl_HexText_eq (u : Nat) (h1 : u ≤ 4294967295) : impl_HexText.f (u : Int) = some (toB (Hex.hexL u)) := if_pos ⟨by omega, by omega⟩

/-! ### impl_DecText -/
theorem impl_DecText_eq (n : Int) (h0 : -9223372036854775808 ≤ n) (h1 : n ≤ 9223372036854775807) : impl_DecText.f n = some (toB (Lib.itoa n)) := if_pos ⟨h0, h1⟩

/-! ### impl_digits -/
theorem impl_digits_eq (n : Int) (hex : Bool) (h : -2147483648 ≤ n ∧ n ≤ 2147483647) : impl_digits.f n hex = some (toB (numL n hex)) := by
  unfold impl_digits.f numL
  have hm : n % 4294967296 = (((n % 4294967296).toNat : Nat) : Int) := by omega
  cases hex with
  | true =>
    have hl := hexL_len32 (u := (n % 4294967296).toNat) (by omega)
    rw [if_pos rfl, if_pos rfl, hm, impl_HexText_eq _ (by omega)]
    simp only [Option.bind_some]
    rw [if_pos (by rw [toB_size]; omega), show (⟨#[36]⟩ : ByteArray) = toB [36] from rfl, toB_append']
    rfl
  | false =>
    have hl := itoa_len32 h
    rw [if_neg (by simp), if_neg (by simp), w64 (by omega) (by omega), impl_DecText_eq n (by omega) (by omega)]
    simp only [Option.bind_some]
    rw [if_pos (by rw [toB_size]; omega), show (⟨#[35]⟩ : ByteArray) = toB [35] from rfl, toB_append']
    rfl

/-! ### impl_mark -/
theorem impl_mark_eq (x : Int) (h : 1 ≤ x ∧ x ≤ 6) : impl_mark.f x = some (toB (markL x)) := by
  have : x = 1 ∨ x = 2 ∨ x = 3 ∨ x = 4 ∨ x = 5 ∨ x = 6 := by omega
  rcases this with rfl | rfl | rfl | rfl | rfl | rfl <;> rfl

/-! ### impl_ItemText -/
theorem impl_ItemText_ev (it : It) (hn : -2147483648 ≤ it.n ∧ it.n ≤ 2147483647) (hr : 0 ≤ it.raw ∧ it.raw ≤ 4294967295) (hl : it.name.length ≤ 1048576) :
    Ev (fun k => impl_ItemText.f k it.kind (toB it.name) it.n it.hex it.raw) (toB (itemText it)) := by
  refine ev_bind (impl_ItemOk_ev it hn hl) ?_
  unfold itemText
  by_cases hok : 0 < (cellsOf it).length
  · rw [if_pos hok]
    have hk := kind_of_ok it hok
    have hnl : ∀ b, (numL it.n b).length ≤ 30 := by
      intro b
      unfold numL
      have := itoa_len32 hn
      have := hexL_len32 (u := (it.n % 4294967296).toNat) (by omega)
      split <;> (rw [List.length_cons]; omega)
    have hrr : it.raw = ((it.raw.toNat : Nat) : Int) := by omega
    have hrl := hexL_len32 (u := it.raw.toNat) (by omega)
    refine ev_pos (decide_eq_true hok) ?_
    refine ev_ite (fun h0 => ?_) (fun h0 => ?_)
    · rw [if_neg (show ¬(it.kind = 7 ∨ it.kind = 8) by omega), if_neg (show ¬ it.kind = 9 by omega), if_pos h0]
      refine ev_bind (ev_eq (by rw [hrr]; exact impl_HexText_eq it.raw.toNat (by omega))) (ev_pos (by rw [toB_size]; omega) (ev_ret ?_))
      rw [show (⟨#[37]⟩ : ByteArray) = toB [37] from rfl, toB_append']; rfl
    · refine ev_ite (fun h7 => ?_) (fun h7 => ?_)
      · rw [if_pos (.inl h7), h7]
        refine ev_bind (ev_eq (impl_digits_eq _ _ hn)) (ev_pos (by rw [toB_size]; have := hnl it.hex; omega) (ev_ret ?_))
        rw [show (⟨#[126]⟩ : ByteArray) = toB [126] from rfl, toB_append']; rfl
      · refine ev_ite (fun h8 => ?_) (fun h8 => ?_)
        · rw [if_pos (.inr h8), h8]
          refine ev_bind (ev_eq (impl_digits_eq _ _ hn)) (ev_pos (by rw [toB_size]; have := hnl it.hex; omega) (ev_ret ?_))
          rw [show (⟨#[61]⟩ : ByteArray) = toB [61] from rfl, toB_append']; rfl
        · rw [if_neg (show ¬(it.kind = 7 ∨ it.kind = 8) by omega)]
          refine ev_ite (fun h9 => ?_) (fun h9 => ?_)
          · rw [if_pos h9]
            refine ev_pos (by rw [toB_size]; omega) (ev_bind (ev_eq (impl_digits_eq _ _ hn)) (ev_pos ?_ (ev_ret ?_)))
            · rw [show (⟨#[38]⟩ : ByteArray) = toB [38] from rfl, toB_append', toB_size, toB_size, List.length_append, List.length_singleton]; have := hnl false; omega
            · rw [show (⟨#[38]⟩ : ByteArray) = toB [38] from rfl, toB_append', toB_append']; rfl
          · rw [if_neg h9, if_neg h0]
            have hml := markL_len it.kind
            refine ev_bind (ev_eq (impl_mark_eq _ (by omega))) (ev_pos (by rw [toB_size, toB_size]; omega) (ev_ret ?_))
            rw [toB_append']
  · rw [if_neg hok]
    exact ev_neg (by simpa using hok) (ev_ret rfl)

/-! ### FnExactItemText -/
theorem FnExactItemText : laws_FnExactItemText.Pure := by
  intro a0 s a2 a3 a4 w0 w1 w2 w4
  obtain ⟨l, rfl⟩ : ∃ l, s = toB l := ⟨s.data.toList, (toB_self s).symm⟩
  have h2 := wf_i32 w2
  have h4 := wf_u32 w4
  refine Ev.rounds (r := true) ?_
  refine ev_bind (ev_eq (laws_szItem_eq a0 (toB l) a2 a3 a4 1048576 (by omega) (by omega) w1)) ?_
  rw [toB_size]
  by_cases h : (l.length : Int) ≤ 1048576
  · rw [if_pos h]
    have e1 := spec_ItemText_ev ⟨a0, l, a2, a3, a4⟩ h2 h4 (by simp only; omega)
    have e2 := impl_ItemText_ev ⟨a0, l, a2, a3, a4⟩ h2 h4 (by simp only; omega)
    exact ev_neg (by omega) (ev_bind (ev_eq rfl) (ev_bind e1 (ev_bind (ev_eq rfl) (ev_bind e2 (ev_pos rfl (ev_ret rfl))))))
  · rw [if_neg h]
    exact ev_pos (by omega) (ev_ret rfl)

end Go.Proofs.YtfjmpdcflnaogaaDoor.Pure
