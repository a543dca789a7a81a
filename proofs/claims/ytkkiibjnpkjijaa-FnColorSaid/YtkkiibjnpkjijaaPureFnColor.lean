/-
The law FnColor holds of the printed plain functions, for all arguments that the printed bounds allow.
-/
import Derived.Test.YtkkiibjnpkjijaaQFnColorx1
import Derived.Test.YtkkiibjnpkjijaaQFnColorx2
import Derived.Test.YtkkiibjnpkjijaaQFnColorx3
import Derived.Test.YtkkiibjnpkjijaaQFnColorx4
import Derived.Test.YtkkiibjnpkjijaaQFnColorx5
import Derived.Test.YtkkiibjnpkjijaaQFnColorx6
import Derived.Test.YtkkiibjnpkjijaaQFnColorx7
import Derived.Test.YtkkiibjnpkjijaaQFnColorx8
import Derived.Test.YtkkiibjnpkjijaaQFnColorx9
import Derived.Test.YtkkiibjnpkjijaaQFnColorx10
import Derived.Test.YtkkiibjnpkjijaaTools
import Derived.Test.YtkkiibjnpkjijaaLetters
import Derived.Test.YtkkiibjnpkjijaaHeads
import Derived.Test.YtkkiibjnpkjijaaSpots
import Derived.Test.YtkkiibjnpkjijaaNames
import Derived.Test.YtkkiibjnpkjijaaItems
import Derived.Test.YtkkiibjnpkjijaaRound
import Derived.Test.YtkkiibjnpkjijaaDraws
import Derived.Test.YtkkiibjnpkjijaaCells
import Derived.Test.YtkkiibjnpkjijaaColors
namespace Go.Proofs.Ytkkiibjnpkjijaa.Pure
open Go.RowKit Go.Proofs.Ytkkiibjnpkjijaa.QFnColor Go.Proofs.YtkkiibjnpkjijaaW.PrintWords Go.Proofs.YtkkiibjnpkjijaaW.PrintLast Go.Proofs.YtkkiibjnpkjijaaW.PrintMore Go.Proofs.Ytkkiibjnpkjijaa.Tools Go.Proofs.Ytkkiibjnpkjijaa.Plain
set_option linter.unusedVariables false

/-! ### laws_big -/
theorem laws_big_eq (l : List Int) : laws_big.f l = some (decide ((l.length : Int) > 1048576)) := rfl

/-! ### spec_l01In -/
theorem spec_l01In_eq (a b c : Int) : spec_l01In.f a b c = some (decide (b ≤ a ∧ a ≤ c)) := by
  unfold spec_l01In.f
  by_cases h : b ≤ a
  · rw [if_pos h]; simp [h]
  · rw [if_neg h]; simp [h]

/-! ### spec_l04Num -/
theorem spec_l04Num_eq (n : Int) (hex : Bool) (s l : Int) (hn : -2147483648 ≤ n ∧ n ≤ 2147483647) (hs : 0 ≤ s ∧ s ≤ 15) (hl : 0 ≤ l ∧ l ≤ 15) : spec_l04Num.f n hex s l = some (numCells n hex s l) := by
  unfold spec_l04Num.f numCells bitOf
  cases hex
  · simp only [Bool.false_eq_true, if_false]
    by_cases h : -67108864 ≤ n ∧ n ≤ 67108863
    · rw [if_pos h.1, if_pos h.2, if_pos h]
      congr 2; omega
    · rw [if_neg h]
      have e : (0 + l) % 4294967296 = 0 + l := by omega
      rw [e]
      by_cases h1 : n ≥ -67108864
      · rw [if_pos h1, if_neg (by omega)]
      · rw [if_neg h1]
  · simp only [if_true]
    by_cases h : -67108864 ≤ n ∧ n ≤ 67108863
    · rw [if_pos h.1, if_pos h.2, if_pos h]
      congr 2; omega
    · rw [if_neg h]
      have e : (16 + l) % 4294967296 = 16 + l := by omega
      rw [e]
      by_cases h1 : n ≥ -67108864
      · rw [if_pos h1, if_neg (by omega)]
      · rw [if_neg h1]

/-! ### spec_LetterOf -/
theorem spec_LetterOf_all : ∀ b : UInt8, spec_LetterOf.f 49 (b.toNat : Int) = some (lo b) := all_bytes (by decide +kernel)
theorem spec_LetterOf_ev (b : UInt8) : Ev (fun k => spec_LetterOf.f k (b.toNat : Int)) (lo b) := Ev.of (spec_LetterOf.mono _) (spec_LetterOf_all b)

/-! ### spec_NameOk -/
theorem spec_NameOk_l0 (s : ByteArray) (hs : s.size ≤ 24) (d : Nat) : ∀ i : Nat, i + d = s.size → Ev (fun k => spec_NameOk.l0 k s (i : Int)) ((s.data.toList.drop i).all (fun b => decide (1 ≤ lo b))) := by
  induction d with
  | zero =>
    intro i hi
    refine Ev.step (fun k => by rw [spec_NameOk.l0]) ?_
    refine ev_neg (by omega) (ev_ret ?_)
    rw [List.drop_of_length_le (by rw [← size_eq]; omega)]; rfl
  | succ d ih =>
    intro i hi
    have hlt : i < s.size := by omega
    refine Ev.step (fun k => by rw [spec_NameOk.l0]) ?_
    refine ev_pos (by omega) (ev_pos (by omega) (ev_bind (by rw [bt_at hlt]; exact spec_LetterOf_ev _) ?_))
    rw [drop_cons hlt, List.all_cons]
    by_cases h : 1 ≤ lo s[i]
    · refine ev_neg (by omega) ?_
      rw [w64 (by omega) (by omega), show ((i : Int) + 1) = ((i + 1 : Nat) : Int) by omega, decide_eq_true h, Bool.true_and]
      exact ih (i + 1) (by omega)
    · refine ev_pos (by omega) (ev_ret ?_)
      rw [decide_eq_false h, Bool.false_and]
theorem spec_NameOk_ev (s : ByteArray) : Ev (fun k => spec_NameOk.f k s) (okName s.data.toList) := by
  refine ev_bind (ev_eq (spec_l01In_eq _ _ _)) ?_
  unfold okName
  rw [← size_eq]
  by_cases h : 1 ≤ (s.size : Int) ∧ (s.size : Int) ≤ 24
  · refine ev_pos (decide_eq_true h) ?_
    rw [decide_eq_true (show 1 ≤ s.size by omega), decide_eq_true (show s.size ≤ 24 by omega), Bool.true_and, Bool.true_and]
    exact spec_NameOk_l0 s (by omega) s.size 0 (by omega)
  · refine ev_neg (by simp only [decide_eq_true_eq]; exact h) (ev_ret ?_)
    by_cases h1 : 1 ≤ s.size
    · rw [decide_eq_false (show ¬ s.size ≤ 24 by omega)]; simp
    · rw [decide_eq_false h1]; simp

/-! ### spec_WidthOf -/
theorem spec_WidthOf_eq (k : Int) : spec_WidthOf.f k = some (widthOf k) := by
  unfold spec_WidthOf.f widthOf
  simp only [spec_l01In_eq, Option.bind_some, decide_eq_true_eq]
  by_cases h1 : 0 ≤ k ∧ k ≤ 7
  · rw [if_pos h1, if_pos h1]
  rw [if_neg h1, if_neg h1]
  by_cases h2 : 8 ≤ k ∧ k ≤ 15
  · rw [if_pos h2, if_pos h2]
  rw [if_neg h2, if_neg h2]
  by_cases h3 : 16 ≤ k ∧ k ≤ 47
  · rw [if_pos h3, if_pos h3]
  rw [if_neg h3, if_neg h3]

/-! ### spec_BitsOf -/
theorem spec_BitsOf_eq (k : Int) : spec_BitsOf.f k = some (bitsOf k) := by
  unfold spec_BitsOf.f
  simp only [spec_WidthOf_eq, Option.bind_some]
  rcases width_cases k with ⟨e1, e2, h⟩ | ⟨e1, e2, h⟩ | ⟨e1, e2, h⟩ | ⟨e1, e2, h⟩ <;> rw [e1, e2] <;> simp
  · omega
  · rw [w64 (by omega) (by omega)]; omega
  · rw [w64 (by omega) (by omega)]; omega

/-! ### spec_l03One -/
theorem spec_l03One_l0 (s : ByteArray) (hs : s.size ≤ 1000000) (hb : ∀ b ∈ s.data.toList, 1 ≤ lo b) (d : Nat) : ∀ (i : Nat) (f left : Int), i + d = s.size → 0 ≤ left → left ≤ 28 → 0 ≤ f → f + 2 ^ left.toNat ≤ 268435456 →
    Ev (fun k => spec_l03One.l0 k s f left (i : Int)) (f + (one (s.data.toList.drop i) left).1, (i : Int) + ((one (s.data.toList.drop i) left).2 : Int)) := by
  induction d with
  | zero =>
    intro i f left hi h0 h1 h2 h3
    have := two_pow_pos left.toNat
    refine Ev.step (fun k => by rw [spec_l03One.l0]) ?_
    refine ev_neg (by omega) (ev_ret ?_)
    rw [List.drop_of_length_le (by rw [← size_eq]; omega), one]
    simp; omega
  | succ d ih =>
    intro i f left hi h0 h1 h2 h3
    have hlt : i < s.size := by omega
    have hp := two_pow_pos left.toNat
    have hl1 := hb s[i] (by rw [getB hlt]; exact List.getElem_mem _)
    have hlr := lo_range s[i]
    have w := width_in (k := lo s[i]) (by omega) (by omega)
    rw [drop_cons hlt, one]
    refine Ev.step (fun k => by rw [spec_l03One.l0]) ?_
    refine ev_pos (by omega) (ev_pos (by omega) (ev_bind (by rw [bt_at hlt]; exact spec_LetterOf_ev _) (ev_bind (ev_eq (spec_WidthOf_eq _)) ?_)))
    by_cases hw : widthOf (lo s[i]) > left
    · rw [if_pos hw]
      refine ev_pos hw (ev_ret ?_)
      simp; omega
    · rw [if_neg hw]
      have e : left.toNat = (widthOf (lo s[i])).toNat + (left - widthOf (lo s[i])).toNat := by omega
      have hq := two_pow_pos (left - widthOf (lo s[i])).toNat
      have hm : (bitsOf (lo s[i]) + 1) * 2 ^ (left - widthOf (lo s[i])).toNat ≤ 2 ^ left.toNat := by
        rw [e, Int.pow_add]; exact Int.mul_le_mul_of_nonneg_right (by omega) (by omega)
      rw [Int.add_mul] at hm
      have hn := Int.mul_nonneg w.2.2.1 (show 0 ≤ (2 : Int) ^ (left - widthOf (lo s[i])).toNat by omega)
      have hb7 := two_pow_le (a := (widthOf (lo s[i])).toNat) (b := 7) (by omega)
      refine ev_neg hw (ev_bind (ev_eq (spec_BitsOf_eq _)) (ev_pos (by rw [w64 (by omega) (by omega), wu64 (by omega) (by omega)]; omega) ?_))
      rw [w64 (x := bitsOf (lo s[i])) (by omega) (by omega), w64 (x := left - widthOf (lo s[i])) (by omega) (by omega), wu64 (by omega) (by omega), shl_i64 w.2.2.1 (by omega) (by omega), w64 (by omega) (by omega), w64 (by omega) (by omega), show ((i : Int) + 1) = ((i + 1 : Nat) : Int) by omega]
      refine ev_to (ih (i + 1) _ _ (by omega) (by omega) (by omega) (by omega) (by omega)) ?_
      simp only [Prod.mk.injEq]
      constructor <;> omega
theorem spec_l03One_ev (l : List UInt8) (hl : l.length ≤ 1000000) (hb : ∀ b ∈ l, 1 ≤ lo b) : Ev (fun k => spec_l03One.f k (toB l)) ((one l 28).1, ((one l 28).2 : Int)) := by
  refine ev_to (spec_l03One_l0 (toB l) (by rw [toB_size]; exact hl) hb l.length 0 0 28 (by rw [toB_size]; omega) (by omega) (by omega) (by omega) (by decide)) ?_
  rw [toB_data]; simp

/-! ### spec_Pack -/
theorem spec_Pack_l0 (n : Nat) : ∀ (l : List UInt8) (out : List Int), l.length ≤ n → n ≤ 1000000 → (∀ b ∈ l, 1 ≤ lo b) → out.length + l.length ≤ 1000000 → Ev (fun k => spec_Pack.l0 k (toB l) out) (out ++ packF l.length l) := by
  induction n with
  | zero =>
    intro l out hl hn hb ho
    have : l = [] := List.eq_nil_of_length_eq_zero (by omega)
    subst this
    refine Ev.step (fun k => by rw [spec_Pack.l0]) ?_
    exact ev_pos (by rw [ba_toList]; rfl) (ev_ret (by simp [packF]))
  | succ n ih =>
    intro l out hl hn hb ho
    by_cases h : l = []
    · subst h
      refine Ev.step (fun k => by rw [spec_Pack.l0]) ?_
      exact ev_pos (by rw [ba_toList]; rfl) (ev_ret (by simp [packF]))
    · have h1 := one_pos h (left := 28) (by omega)
      have h2 := one_range l 28 (by omega) (by omega) hb
      refine Ev.step (fun k => by rw [spec_Pack.l0]) ?_
      refine ev_neg (by rw [ba_toList, toB_data]; exact h) (ev_bind (spec_l03One_ev l (by omega) hb) (ev_pos (by omega) (ev_pos (by simp only; omega) (ev_pos (by rw [toB_size]; simp only; omega) ?_))))
      rw [packF_step h, extract_eq, toB_data, toB_size, List.take_of_length_le (by omega)]
      simp only [Int.toNat_natCast]
      refine ev_to (ih (l.drop (one l 28).2) (out ++ [(one l 28).1]) (by rw [List.length_drop]; omega) (by omega) (fun b hb' => hb b (List.mem_of_mem_drop hb')) (by simp only [List.length_append, List.length_drop, List.length_cons, List.length_nil]; omega)) ?_
      simp
theorem spec_Pack_ev (l : List UInt8) : Ev (fun k => spec_Pack.f k (toB l)) (pack l) := by
  refine ev_some (ev_bind (spec_NameOk_ev _) ?_)
  rw [toB_data]
  unfold pack
  by_cases h : okName l = true
  · rw [if_pos h]
    obtain ⟨h1, h2, h3⟩ := (okName_iff l).1 h
    exact ev_pos h (spec_Pack_l0 l.length l [] (by omega) (by omega) h3 (by simp; omega))
  · rw [if_neg h]
    exact ev_neg h (ev_ret rfl)

/-! ### spec_l04Word -/
theorem spec_l04Word_l0 (t : Int) (ht : 0 ≤ t ∧ t ≤ 15) (fs : List Int) (hf : ∀ f ∈ fs, 0 ≤ f ∧ f < 268435456) (hl : fs.length ≤ 24) (d : Nat) : ∀ i : Nat, i + d = fs.length →
    Ev (fun k => spec_l04Word.l0 k t ((word t fs).take i ++ fs.drop i) (i : Int)) (word t fs) := by
  induction d with
  | zero =>
    intro i hi
    refine Ev.step (fun k => by rw [spec_l04Word.l0]) ?_
    have hw := word_length t fs
    refine ev_neg (by rw [List.length_append, List.length_take, List.length_drop]; omega) (ev_ret ?_)
    rw [List.take_of_length_le (by omega), List.drop_of_length_le (by omega), List.append_nil]
  | succ d ih =>
    intro i hi
    have hw := word_length t fs
    have hlt : i < fs.length := by omega
    have hfi := hf fs[i] (List.getElem_mem _)
    have hti : i = ((word t fs).take i).length := by rw [List.length_take]; omega
    have hg := word_getElem t fs i hlt
    refine Ev.step (fun k => by rw [spec_l04Word.l0]) ?_
    refine ev_pos (by rw [List.length_append, List.length_take, List.length_drop]; omega) (ev_pos (by omega) (ev_some ?_))
    rw [List.drop_eq_getElem_cons hlt, rd_mid hti]
    simp only [Int.toNat_natCast]
    rw [set_mid hti, w64 (by omega) (by omega), show ((i : Int) + 1) = ((i + 1 : Nat) : Int) by omega]
    have next := ih (i + 1) (by omega)
    rw [List.take_succ_eq_append_getElem (by rw [hw]; exact hlt), hg, List.append_assoc, List.singleton_append] at next
    by_cases h0 : i = 0
    · refine ev_pos (by omega) ?_
      rw [rd_mid hti, set_mid hti]
      rw [if_pos h0] at next
      rw [show (fs[i] * 16 % 4294967296 + t) % 4294967296 = fs[i] * 16 + t by omega]
      exact next
    · refine ev_neg (by omega) ?_
      rw [if_neg h0] at next
      rw [show fs[i] * 16 % 4294967296 = fs[i] * 16 by omega]
      exact next
theorem spec_l04Word_ev (t : Int) (ht : 0 ≤ t ∧ t ≤ 15) (l : List UInt8) : Ev (fun k => spec_l04Word.f k t (toB l)) (word t (pack l)) := by
  refine ev_bind (spec_Pack_ev l) ?_
  have := spec_l04Word_l0 t ht (pack l) (fun f hf => (pack_fields f hf).2) (pack_length l) (pack l).length 0 (Nat.zero_add _)
  simpa using this

/-! ### spec_l04Tag -/
theorem spec_l04Tag_eq (k : Int) : spec_l04Tag.f k = some (tagOf k) := by
  unfold spec_l04Tag.f tagOf
  repeat' split
  all_goals rfl

/-! ### spec_CellsOf -/
theorem spec_CellsOf_j0 (it : It) (hn : -2147483648 ≤ it.n ∧ it.n ≤ 2147483647) (b : Bool) (hb : b = true ↔ (it.n = 0 ∧ it.hex = false ∧ it.raw = 0)) : Ev (fun k => spec_CellsOf.j0 k b it.kind (toB it.name) it.n it.hex it.raw) (cellsOf it) := by
  obtain ⟨kind, name, n, hex, raw⟩ := it
  simp only at hn hb ⊢
  refine Ev.step (fun k => by rw [spec_CellsOf.j0]) ?_
  by_cases k0 : kind = 0
  · refine ev_pos k0 ?_
    have e : cellsOf ⟨kind, name, n, hex, raw⟩ = if name = [] ∧ n = 0 ∧ hex = false then [raw] else [] := by unfold cellsOf; simp only; rw [if_pos k0]
    rw [e]
    by_cases h1 : name = []
    · refine ev_pos ((toB_nil_iff name).2 h1) ?_
      by_cases h2 : n = 0
      · refine ev_pos h2 ?_
        cases hex with
        | true => exact ev_pos rfl (ev_ret (if_neg (fun h => Bool.noConfusion h.2.2)).symm)
        | false => exact ev_neg (by simp) (ev_ret (if_pos ⟨h1, h2, rfl⟩).symm)
      · exact ev_neg h2 (ev_ret (if_neg (fun h => h2 h.2.1)).symm)
    · exact ev_neg (fun h => h1 ((toB_nil_iff name).1 h)) (ev_ret (if_neg (fun h => h1 h.1)).symm)
  refine ev_neg k0 ?_
  by_cases k7 : kind = 7
  · refine ev_pos k7 ?_
    have e : cellsOf ⟨kind, name, n, hex, raw⟩ = if name = [] ∧ raw = 0 then numCells n hex 8 2 else [] := by unfold cellsOf; simp only; rw [if_neg k0, if_pos k7]
    rw [e]
    by_cases h1 : name = []
    · refine ev_pos ((toB_nil_iff name).2 h1) ?_
      by_cases h2 : raw = 0
      · exact ev_pos h2 (ev_bind (ev_eq (spec_l04Num_eq n hex 8 2 hn (by omega) (by omega))) (ev_ret (if_pos ⟨h1, h2⟩).symm))
      · exact ev_neg h2 (ev_ret (if_neg (fun h => h2 h.2)).symm)
    · exact ev_neg (fun h => h1 ((toB_nil_iff name).1 h)) (ev_ret (if_neg (fun h => h1 h.1)).symm)
  refine ev_neg k7 ?_
  by_cases k8 : kind = 8
  · refine ev_pos k8 ?_
    have e : cellsOf ⟨kind, name, n, hex, raw⟩ = if name = [] ∧ raw = 0 then numCells n hex 6 5 else [] := by unfold cellsOf; simp only; rw [if_neg k0, if_neg k7, if_pos k8]
    rw [e]
    by_cases h1 : name = []
    · refine ev_pos ((toB_nil_iff name).2 h1) ?_
      by_cases h2 : raw = 0
      · exact ev_pos h2 (ev_bind (ev_eq (spec_l04Num_eq n hex 6 5 hn (by omega) (by omega))) (ev_ret (if_pos ⟨h1, h2⟩).symm))
      · exact ev_neg h2 (ev_ret (if_neg (fun h => h2 h.2)).symm)
    · exact ev_neg (fun h => h1 ((toB_nil_iff name).1 h)) (ev_ret (if_neg (fun h => h1 h.1)).symm)
  refine ev_neg k8 ?_
  by_cases k9 : kind = 9
  · have hp := pack_length name
    have hwl := word_length 12 (pack name)
    have e : cellsOf ⟨kind, name, n, hex, raw⟩ = if hex = false ∧ raw = 0 ∧ (pack name).length = 1 then word 12 (pack name) ++ [n % 4294967296] else [] := by unfold cellsOf; simp only; rw [if_neg k0, if_neg k7, if_neg k8, if_pos k9]
    rw [e]
    refine ev_pos k9 (ev_bind (spec_l04Word_ev 12 (by omega) name) ?_)
    by_cases h1 : (pack name).length = 1
    · refine ev_pos (by omega) ?_
      cases hex with
      | true => exact ev_pos rfl (ev_ret (if_neg (fun h => Bool.noConfusion h.1)).symm)
      | false =>
        refine ev_neg (by simp) ?_
        by_cases h2 : raw = 0
        · exact ev_pos h2 (ev_pos (by omega) (ev_ret (if_pos ⟨rfl, h2, h1⟩).symm))
        · exact ev_neg h2 (ev_ret (if_neg (fun h => h2 h.2.1)).symm)
    · exact ev_neg (by omega) (ev_ret (if_neg (fun h => h1 h.2.2)).symm)
  have e : cellsOf ⟨kind, name, n, hex, raw⟩ = if 0 < tagOf kind ∧ n = 0 ∧ hex = false ∧ raw = 0 then word (tagOf kind) (pack name) else [] := by unfold cellsOf; simp only; rw [if_neg k0, if_neg k7, if_neg k8, if_neg k9]
  rw [e]
  refine ev_neg k9 (ev_bind (ev_eq (spec_l04Tag_eq kind)) ?_)
  have ht := tagOf_range kind
  by_cases hp : 0 < tagOf kind
  · refine ev_pos hp ?_
    by_cases hq : n = 0 ∧ hex = false ∧ raw = 0
    · exact ev_pos (hb.2 hq) (ev_bind (spec_l04Word_ev _ (by omega) name) (ev_ret (if_pos ⟨hp, hq⟩).symm))
    · exact ev_neg (fun h => hq (hb.1 h)) (ev_ret (if_neg (fun h => hq h.2)).symm)
  · exact ev_neg hp (ev_ret (if_neg (fun h => hp h.1)).symm)
theorem spec_CellsOf_ev (it : It) (hn : -2147483648 ≤ it.n ∧ it.n ≤ 2147483647) : Ev (fun k => spec_CellsOf.f k it.kind (toB it.name) it.n it.hex it.raw) (cellsOf it) := by
  unfold spec_CellsOf.f
  by_cases h1 : it.n = 0
  · refine ev_pos h1 ?_
    cases h2 : it.hex with
    | true =>
      refine ev_pos rfl ?_
      rw [← h2]
      exact spec_CellsOf_j0 it hn _ (by simp [h2])
    | false =>
      refine ev_neg (by simp) ?_
      rw [← h2]
      exact spec_CellsOf_j0 it hn _ (by simp [h1, h2])
  · exact ev_neg h1 (spec_CellsOf_j0 it hn _ (by simp [h1]))

/-! ### spec_ItemOk -/
theorem spec_ItemOk_ev (it : It) (hn : -2147483648 ≤ it.n ∧ it.n ≤ 2147483647) : Ev (fun k => spec_ItemOk.f k it.kind (toB it.name) it.n it.hex it.raw) (decide (0 < (cellsOf it).length)) := by
  refine ev_bind (spec_CellsOf_ev it hn) (ev_ret ?_)
  rw [Bool.eq_iff_iff, decide_eq_true_eq, decide_eq_true_eq]; omega

/-! ### spec_Recolor -/
theorem spec_Recolor_ev (it : It) (hn : -2147483648 ≤ it.n ∧ it.n ≤ 2147483647) (k1 : Int) : Ev (fun k => spec_Recolor.f k it.kind (toB it.name) it.n it.hex it.raw k1) (recolor it k1) := by
  have e := spec_ItemOk_ev it hn
  have step : ∀ x6 : Bool, x6 = decide (1 ≤ it.kind ∧ it.kind ≤ 6 ∧ 1 ≤ k1 ∧ k1 ≤ 6) → Ev (fun k => spec_Recolor.j0 k k1 x6 it.kind (toB it.name) it.n it.hex it.raw) (recolor it k1) := by
    intro x6 hx
    unfold recolor
    refine Ev.step (fun k => by rw [spec_Recolor.j0]) ?_
    by_cases hc : 0 < (cellsOf it).length
    · rw [decide_eq_true hc] at e
      refine ev_bind (ev_eq (spec_l01In_eq _ _ _)) ?_
      by_cases h7 : 7 ≤ it.kind ∧ it.kind ≤ 8
      · refine ev_pos (decide_eq_true h7) (ev_bind (ev_eq (spec_l01In_eq _ _ _)) (ev_bind e (ev_pos rfl ?_)))
        refine ev_ite (fun h => ?_) (fun h => ?_)
        · rw [hx] at h
          have := of_decide_eq_true h
          exact ev_ret (if_pos (by omega)).symm
        · rw [hx] at h
          have h6 : ¬ (1 ≤ it.kind ∧ it.kind ≤ 6 ∧ 1 ≤ k1 ∧ k1 ≤ 6) := by simpa using h
          refine ev_ite (fun h2 => ?_) (fun h2 => ?_)
          · have := of_decide_eq_true h2
            exact ev_ret (if_pos (by omega)).symm
          · have h3 : ¬ (7 ≤ k1 ∧ k1 ≤ 8) := by simpa using h2
            refine ev_ite (fun h4 => ?_) (fun h4 => ?_)
            · exact ev_ret (if_pos (by omega)).symm
            · exact ev_ret (if_neg (by omega)).symm
      · refine ev_neg (by simpa using h7) (ev_bind e (ev_pos rfl ?_))
        refine ev_ite (fun h => ?_) (fun h => ?_)
        · rw [hx] at h
          have := of_decide_eq_true h
          exact ev_ret (if_pos (by omega)).symm
        · rw [hx] at h
          have h6 : ¬ (1 ≤ it.kind ∧ it.kind ≤ 6 ∧ 1 ≤ k1 ∧ k1 ≤ 6) := by simpa using h
          refine ev_ite (fun h4 => ?_) (fun h4 => ?_)
          · exact ev_ret (if_pos (by omega)).symm
          · exact ev_ret (if_neg (by omega)).symm
    · rw [decide_eq_false hc] at e
      refine ev_bind (ev_eq (spec_l01In_eq _ _ _)) (ev_ite (fun _ => ?_) (fun _ => ?_))
      · exact ev_bind (ev_eq (spec_l01In_eq _ _ _)) (ev_bind e (ev_neg (by simp) (ev_ret (if_neg (fun h => hc h.1)).symm)))
      · exact ev_bind e (ev_neg (by simp) (ev_ret (if_neg (fun h => hc h.1)).symm))
  refine ev_bind (ev_eq (spec_l01In_eq _ _ _)) ?_
  by_cases h1 : 1 ≤ it.kind ∧ it.kind ≤ 6
  · refine ev_pos (decide_eq_true h1) (ev_bind (ev_eq (spec_l01In_eq _ _ _)) (step _ ?_))
    exact decide_eq_decide.2 ⟨fun h => ⟨h1.1, h1.2, h.1, h.2⟩, fun h => ⟨h.2.2.1, h.2.2.2⟩⟩
  · refine ev_neg (by simpa using h1) (step _ ?_)
    exact (decide_eq_false (fun h => h1 ⟨h.1, h.2.1⟩)).symm

/-! ### impl_nameTag -/
theorem impl_nameTag_eq (k : Int) : impl_nameTag.f k = some (tagOf k) := by
  unfold impl_nameTag.f tagOf
  repeat' split
  all_goals rfl

/-! ### impl_within -/
theorem impl_within_eq (a b c : Int) : impl_within.f a b c = some (decide (b ≤ a ∧ a ≤ c)) := by
  unfold impl_within.f
  by_cases h : b ≤ a
  · rw [if_pos h]; simp [h]
  · rw [if_neg h]; simp [h]

/-! ### strings_IndexByte -/
theorem strings_IndexByte_eq (b : UInt8) : strings_IndexByte.f lettersB (b.toNat : Int) = some (lo b) := by
  unfold strings_IndexByte.f stringslite_IndexByte.f lo
  simp

/-! ### impl_LetterOf -/
theorem impl_LetterOf_eq (b : UInt8) : impl_LetterOf.f (b.toNat : Int) = some (lo b) := by
  unfold impl_LetterOf.f
  have e : impl_letters.f = some lettersB := rfl
  rw [e]
  simp only [Option.bind_some]
  rw [strings_IndexByte_eq]
  rfl

/-! ### impl_NameOk -/
theorem impl_NameOk_l0 (s : ByteArray) (hs : s.size ≤ 1048576) (d : Nat) : ∀ i : Nat, i + d = s.size → Ev (fun k => impl_NameOk.l0 k s (s.size : Int) (i : Int)) ((s.data.toList.drop i).all (fun b => decide (1 ≤ lo b)) && decide (1 ≤ s.size ∧ s.size ≤ 24)) := by
  induction d with
  | zero =>
    intro i hi
    refine Ev.step (fun k => by rw [impl_NameOk.l0]) ?_
    refine ev_neg (by omega) (ev_bind (ev_eq (impl_within_eq _ _ _)) (ev_ret ?_))
    rw [List.drop_of_length_le (by rw [← size_eq]; omega), List.all_nil, Bool.true_and]
    rw [Bool.eq_iff_iff, decide_eq_true_eq, decide_eq_true_eq]; omega
  | succ d ih =>
    intro i hi
    have hlt : i < s.size := by omega
    refine Ev.step (fun k => by rw [impl_NameOk.l0]) ?_
    refine ev_pos (by omega) (ev_pos (by omega) (ev_pos (by omega) (ev_bind (ev_eq (by rw [bt_at hlt]; exact impl_LetterOf_eq _)) ?_)))
    rw [drop_cons hlt, List.all_cons]
    by_cases h : 1 ≤ lo s[i]
    · refine ev_neg (by omega) ?_
      rw [w64 (by omega) (by omega), show ((i : Int) + 1) = ((i + 1 : Nat) : Int) by omega, decide_eq_true h, Bool.true_and]
      exact ih (i + 1) (by omega)
    · refine ev_pos (by omega) (ev_ret ?_)
      rw [decide_eq_false h, Bool.false_and, Bool.false_and]
theorem impl_NameOk_ev (s : ByteArray) (hs : s.size ≤ 1048576) : Ev (fun k => impl_NameOk.f k s) (okName s.data.toList) := by
  refine ev_to (impl_NameOk_l0 s hs s.size 0 (by omega)) ?_
  unfold okName
  rw [← size_eq, List.drop_zero, Bool.eq_iff_iff]
  simp only [Bool.and_eq_true, decide_eq_true_eq]
  exact ⟨fun h => ⟨h.2, h.1⟩, fun h => ⟨h.2, h.1⟩⟩

/-! ### impl_WidthOf -/
theorem impl_WidthOf_eq (k : Int) : impl_WidthOf.f k = some (widthOf k) := by
  unfold impl_WidthOf.f widthOf
  simp only [impl_within_eq, Option.bind_some, decide_eq_true_eq]
  by_cases h1 : 0 ≤ k ∧ k ≤ 7
  · rw [if_pos h1, if_pos h1]
  rw [if_neg h1, if_neg h1]
  by_cases h2 : 8 ≤ k ∧ k ≤ 15
  · rw [if_pos h2, if_pos h2]
  rw [if_neg h2, if_neg h2]
  by_cases h3 : 16 ≤ k ∧ k ≤ 47
  · rw [if_pos h3, if_pos h3]
  rw [if_neg h3, if_neg h3]

/-! ### impl_BitsOf -/
theorem impl_BitsOf_eq (k : Int) : impl_BitsOf.f k = some (bitsOf k) := by
  unfold impl_BitsOf.f
  simp only [impl_WidthOf_eq, Option.bind_some]
  rcases width_cases k with ⟨e1, e2, h⟩ | ⟨e1, e2, h⟩ | ⟨e1, e2, h⟩ | ⟨e1, e2, h⟩ <;> rw [e1, e2] <;> simp
  · omega
  · omega
  · omega

/-! ### impl_PackOne -/
theorem impl_PackOne_l0 (s : ByteArray) (hs : s.size ≤ 1000000) (hb : ∀ b ∈ s.data.toList, 1 ≤ lo b) (d : Nat) : ∀ (i : Nat) (f left : Int), i + d = s.size → 0 ≤ left → left ≤ 28 → 0 ≤ f → f % 2 ^ left.toNat = 0 → f + 2 ^ left.toNat ≤ 268435456 →
    Ev (fun k => impl_PackOne.l0 k s f left (i : Int) (s.size : Int) (i : Int)) (f + (one (s.data.toList.drop i) left).1, (i : Int) + ((one (s.data.toList.drop i) left).2 : Int)) := by
  induction d with
  | zero =>
    intro i f left hi h0 h1 h2 hm h3
    have := two_pow_pos left.toNat
    refine Ev.step (fun k => by rw [impl_PackOne.l0]) ?_
    refine ev_neg (by omega) (ev_ret ?_)
    rw [List.drop_of_length_le (by rw [← size_eq]; omega), one]
    simp
  | succ d ih =>
    intro i f left hi h0 h1 h2 hm0 h3
    have hlt : i < s.size := by omega
    have hp := two_pow_pos left.toNat
    have hl1 := hb s[i] (by rw [getB hlt]; exact List.getElem_mem _)
    have hlr := lo_range s[i]
    have w := width_in (k := lo s[i]) (by omega) (by omega)
    rw [drop_cons hlt, one]
    refine Ev.step (fun k => by rw [impl_PackOne.l0]) ?_
    refine ev_pos (by omega) (ev_pos (by omega) (ev_pos (by omega) (ev_bind (ev_eq (by rw [bt_at hlt]; exact impl_LetterOf_eq _)) (ev_bind (ev_eq (impl_WidthOf_eq _)) ?_))))
    by_cases hw : widthOf (lo s[i]) > left
    · rw [if_pos hw]
      refine ev_pos hw (ev_ret ?_)
      simp
    · rw [if_neg hw]
      have e : left.toNat = (widthOf (lo s[i])).toNat + (left - widthOf (lo s[i])).toNat := by omega
      have hq := two_pow_pos (left - widthOf (lo s[i])).toNat
      have hm : (bitsOf (lo s[i]) + 1) * 2 ^ (left - widthOf (lo s[i])).toNat ≤ 2 ^ left.toNat := by
        rw [e, Int.pow_add]; exact Int.mul_le_mul_of_nonneg_right (by omega) (by omega)
      rw [Int.add_mul] at hm
      have hn := Int.mul_nonneg w.2.2.1 (show 0 ≤ (2 : Int) ^ (left - widthOf (lo s[i])).toNat by omega)
      refine ev_neg hw (ev_bind (ev_eq (impl_WidthOf_eq _)) (ev_bind (ev_eq (impl_BitsOf_eq _)) (ev_pos (by rw [w64 (by omega) (by omega)]; omega) ?_)))
      rw [w64 (x := left - widthOf (lo s[i])) (by omega) (by omega), shl_u32 w.2.2.1 (by omega) (by omega), w64 (by omega) (by omega), show ((i : Int) + 1) = ((i + 1 : Nat) : Int) by omega]
      rw [or_u32 left.toNat (by omega) hm0 (by omega) (by omega) (by omega)]
      refine ev_to (ih (i + 1) _ _ (by omega) (by omega) (by omega) (by omega) ?_ (by omega)) ?_
      · have e2 : (f + bitsOf (lo s[i]) * 2 ^ (left - widthOf (lo s[i])).toNat) = (2 : Int) ^ (left - widthOf (lo s[i])).toNat * (2 ^ (widthOf (lo s[i])).toNat * (f / 2 ^ left.toNat) + bitsOf (lo s[i])) := by
          have h4 := Int.mul_ediv_add_emod f (2 ^ left.toNat)
          rw [hm0, e, Int.pow_add] at h4
          rw [Int.mul_add, Int.mul_comm (bitsOf _), e, Int.pow_add]
          rw [← Int.mul_assoc, Int.mul_comm (2 ^ (left - widthOf (lo s[i])).toNat) (2 ^ (widthOf (lo s[i])).toNat)]
          omega
        rw [e2, Int.mul_emod_right]
      · simp only [Prod.mk.injEq]
        constructor <;> omega
theorem impl_PackOne_ev (l : List UInt8) (hl : l.length ≤ 1048576) : Ev (fun k => impl_PackOne.f k (toB l)) (if okName l = true then ((one l 28).1, ((one l 28).2 : Int)) else (0, 0)) := by
  refine ev_bind (impl_NameOk_ev (toB l) (by rw [toB_size]; omega)) ?_
  rw [toB_data]
  by_cases h : okName l = true
  · rw [if_pos h]
    obtain ⟨h1, h2, h3⟩ := (okName_iff l).1 h
    refine ev_pos h (ev_to (impl_PackOne_l0 (toB l) (by rw [toB_size]; omega) h3 l.length 0 0 28 (by rw [toB_size]; omega) (by omega) (by omega) (by omega) (by simp) (by decide)) ?_)
    rw [toB_data]; simp
  · rw [if_neg h]
    exact ev_neg h (ev_ret rfl)

/-! ### impl_Pack -/
theorem impl_Pack_l0 (n : Nat) : ∀ (l : List UInt8) (out : List Int), l.length ≤ n → n ≤ 24 → (∀ b ∈ l, 1 ≤ lo b) → out.length + l.length ≤ 1000000 → Ev (fun k => impl_Pack.l0 k (toB l) out) (out ++ packF l.length l) := by
  have stop : ∀ out : List Int, Ev (fun k => impl_Pack.l0 k (toB []) out) (out ++ packF 0 []) := by
    intro out
    refine Ev.step (fun k => by rw [impl_Pack.l0]) ?_
    refine ev_bind (impl_NameOk_ev _ (by decide)) (ev_neg (by decide) (ev_ret ?_))
    simp [packF]
  induction n with
  | zero =>
    intro l out hl hn hb ho
    have : l = [] := List.eq_nil_of_length_eq_zero (by omega)
    subst this
    exact stop out
  | succ n ih =>
    intro l out hl hn hb ho
    by_cases h : l = []
    · subst h; exact stop out
    · have h1 := one_pos h (left := 28) (by omega)
      have h2 := one_range l 28 (by omega) (by omega) hb
      have hok : okName l = true := (okName_iff l).2 ⟨List.length_pos_iff.2 h, by omega, hb⟩
      have hone := impl_PackOne_ev l (by omega)
      rw [if_pos hok] at hone
      refine Ev.step (fun k => by rw [impl_Pack.l0]) ?_
      refine ev_bind (impl_NameOk_ev _ (by rw [toB_size]; omega)) (ev_pos (by rw [toB_data]; exact hok) (ev_bind hone (ev_pos (by omega) (ev_pos (by simp only; omega) (ev_pos (by rw [toB_size]; simp only; omega) ?_)))))
      rw [packF_step h, extract_eq, toB_data, toB_size, List.take_of_length_le (by omega)]
      simp only [Int.toNat_natCast]
      refine ev_to (ih (l.drop (one l 28).2) (out ++ [(one l 28).1]) (by rw [List.length_drop]; omega) (by omega) (fun b hb' => hb b (List.mem_of_mem_drop hb')) (by simp only [List.length_append, List.length_drop, List.length_cons, List.length_nil]; omega)) ?_
      simp
theorem impl_Pack_ev (l : List UInt8) (hl : l.length ≤ 1048576) : Ev (fun k => impl_Pack.f k (toB l)) (pack l) := by
  unfold pack
  by_cases h : okName l = true
  · rw [if_pos h]
    obtain ⟨h1, h2, h3⟩ := (okName_iff l).1 h
    exact impl_Pack_l0 l.length l [] (by omega) h2 h3 (by simp; omega)
  · rw [if_neg h]
    refine Ev.step (g := fun k => impl_Pack.l0 k (toB l) []) (fun k => by rw [impl_Pack.l0]) ?_
    exact ev_bind (impl_NameOk_ev _ (by rw [toB_size]; omega)) (ev_neg (by rw [toB_data]; exact h) (ev_ret rfl))

/-! ### impl_numberCells -/
theorem impl_numberCells_eq (n : Int) (hex : Bool) (s l : Int) (hn : -2147483648 ≤ n ∧ n ≤ 2147483647) (hs : 0 ≤ s ∧ s ≤ 15) (hl : 0 ≤ l ∧ l ≤ 15) : impl_numberCells.f n hex s l = some (numCells n hex s l) := by
  unfold impl_numberCells.f numCells bitOf
  have e0 : (n % 4294967296 * 32) % 4294967296 = n % 134217728 * 32 := by omega
  have em : n % 134217728 * 32 % 2 ^ 5 = 0 := by omega
  rw [e0]
  cases hex
  · simp only [Bool.false_eq_true, if_false]
    rw [or_u32 (x := n % 134217728 * 32) (y := 0) 0 (by omega) (by simp) (by omega) (by omega) (by omega), or_u32 (x := n % 134217728 * 32 + 0) (y := s) 4 (by omega) (by omega) hs.1 (by omega) (by omega), or_u32 (x := 0) (y := l) 4 (by omega) (by omega) hl.1 (by omega) (by omega)]
    by_cases h : -67108864 ≤ n ∧ n ≤ 67108863
    · rw [if_pos h.1, if_pos h.2, if_pos h]
    · rw [if_neg h]
      by_cases h1 : n ≥ -67108864
      · rw [if_pos h1, if_neg (by omega)]
      · rw [if_neg h1]
  · simp only [if_true]
    rw [or_u32 (x := n % 134217728 * 32) (y := 16) 5 (by omega) em (by omega) (by omega) (by omega), or_u32 (x := n % 134217728 * 32 + 16) (y := s) 4 (by omega) (by omega) hs.1 (by omega) (by omega), or_u32 (x := 16) (y := l) 4 (by omega) (by omega) hl.1 (by omega) (by omega)]
    by_cases h : -67108864 ≤ n ∧ n ≤ 67108863
    · rw [if_pos h.1, if_pos h.2, if_pos h]
    · rw [if_neg h]
      by_cases h1 : n ≥ -67108864
      · rw [if_pos h1, if_neg (by omega)]
      · rw [if_neg h1]

/-! ### impl_CellsOf -/
theorem impl_CellsOf_l0 (fs : List Int) (hf : ∀ f ∈ fs, 0 ≤ f ∧ f < 268435456) (hl : fs.length ≤ 24) (d : Nat) : ∀ (i : Nat) (t : Int) (out : List Int), i + d = fs.length → 0 ≤ t ∧ t ≤ 15 → out.length ≤ i →
    Ev (fun k => impl_CellsOf.l0 k t out fs (fs.length : Int) (i : Int)) (out ++ word t (fs.drop i)) := by
  induction d with
  | zero =>
    intro i t out hi ht ho
    refine Ev.step (fun k => by rw [impl_CellsOf.l0]) ?_
    refine ev_neg (by omega) (ev_ret ?_)
    rw [List.drop_of_length_le (by omega), word, List.append_nil]
  | succ d ih =>
    intro i t out hi ht ho
    have hlt : i < fs.length := by omega
    have hfi := hf fs[i] (List.getElem_mem _)
    refine Ev.step (fun k => by rw [impl_CellsOf.l0]) ?_
    refine ev_pos (by omega) (ev_pos (by omega) (ev_pos (by omega) (ev_pos (by omega) ?_)))
    rw [rd_nat hlt, w64 (by omega) (by omega), show ((i : Int) + 1) = ((i + 1 : Nat) : Int) by omega]
    rw [show fs[i] * 16 % 4294967296 = fs[i] * 16 by omega, or_u32 4 (by omega) (by omega) ht.1 (by omega) (by omega)]
    refine ev_to (ih (i + 1) 0 _ (by omega) (by omega) (by rw [List.length_append, List.length_singleton]; omega)) ?_
    rw [word_zero, List.drop_eq_getElem_cons hlt, word, List.append_assoc]
    rfl
theorem impl_CellsOf_ev (it : It) (hn : -2147483648 ≤ it.n ∧ it.n ≤ 2147483647) (hs : it.name.length ≤ 1048576) : Ev (fun k => impl_CellsOf.f k it.kind (toB it.name) it.n it.hex it.raw) (cellsOf it) := by
  obtain ⟨kind, name, n, hex, raw⟩ := it
  simp only at hn hs ⊢
  have hp := pack_length name
  have hpf : ∀ f ∈ pack name, 0 ≤ f ∧ f < 268435456 := fun f hf => (pack_fields f hf).2
  have ht := tagOf_range kind
  have rest : ∀ b : Bool, (b = true → 0 < tagOf kind ∧ n = 0 ∧ hex = false ∧ raw = 0) → (0 < tagOf kind ∧ n = 0 ∧ hex = false ∧ raw = 0 → b = true) → Ev (fun k => impl_CellsOf.j0 k (tagOf kind) b kind (toB name) n hex raw) (cellsOf ⟨kind, name, n, hex, raw⟩) := by
    intro b hb1 hb2
    refine Ev.step (fun k => by rw [impl_CellsOf.j0]) ?_
    by_cases hb : b = true
    · obtain ⟨q1, q2⟩ := hb1 hb
      have := tagOf_pos q1
      have e : cellsOf ⟨kind, name, n, hex, raw⟩ = word (tagOf kind) (pack name) := by unfold cellsOf; simp only; rw [if_neg (by omega), if_neg (by omega), if_neg (by omega), if_neg (by omega), if_pos ⟨q1, q2⟩]
      rw [e]
      refine ev_pos hb (ev_bind (impl_Pack_ev name hs) ?_)
      have := impl_CellsOf_l0 (pack name) hpf hp (pack name).length 0 (tagOf kind) [] (Nat.zero_add _) (by omega) (Nat.le_refl _)
      simpa using this
    · refine ev_neg hb ?_
      by_cases k0 : kind = 0
      · have e : cellsOf ⟨kind, name, n, hex, raw⟩ = if name = [] ∧ n = 0 ∧ hex = false then [raw] else [] := by unfold cellsOf; simp only; rw [if_pos k0]
        rw [e]
        refine ev_neg (by simp [k0]) (ev_neg (by simp [k0]) (ev_neg (by simp [k0]) ?_))
        by_cases h : name = [] ∧ n = 0 ∧ hex = false
        · refine ev_pos ?_ (ev_ret (if_pos h).symm)
          obtain ⟨h1, h2, h3⟩ := h
          rw [(toB_nil_iff name).2 h1, h2, h3, k0]; rfl
        · refine ev_neg ?_ (ev_ret (if_neg h).symm)
          intro hc
          simp only [Bool.and_eq_true, beq_iff_eq, Bool.not_eq_true'] at hc
          exact h ⟨(toB_nil_iff name).1 hc.2.1, hc.2.2.1, hc.2.2.2⟩
      by_cases k7 : kind = 7
      · have e : cellsOf ⟨kind, name, n, hex, raw⟩ = if name = [] ∧ raw = 0 then numCells n hex 8 2 else [] := by unfold cellsOf; simp only; rw [if_neg k0, if_pos k7]
        rw [e]
        by_cases h : name = [] ∧ raw = 0
        · refine ev_pos ?_ (ev_bind (ev_eq (impl_numberCells_eq n hex 8 2 hn (by omega) (by omega))) (ev_ret (if_pos h).symm))
          rw [(toB_nil_iff name).2 h.1, h.2, k7]; rfl
        · refine ev_neg ?_ (ev_neg (by simp [k7]) (ev_neg (by simp [k7]) (ev_neg (by simp [k7]) (ev_ret (if_neg h).symm))))
          intro hc
          simp only [Bool.and_eq_true, beq_iff_eq] at hc
          exact h ⟨(toB_nil_iff name).1 hc.2.1, hc.2.2⟩
      refine ev_neg (by simp [k7]) ?_
      by_cases k8 : kind = 8
      · have e : cellsOf ⟨kind, name, n, hex, raw⟩ = if name = [] ∧ raw = 0 then numCells n hex 6 5 else [] := by unfold cellsOf; simp only; rw [if_neg k0, if_neg k7, if_pos k8]
        rw [e]
        by_cases h : name = [] ∧ raw = 0
        · refine ev_pos ?_ (ev_bind (ev_eq (impl_numberCells_eq n hex 6 5 hn (by omega) (by omega))) (ev_ret (if_pos h).symm))
          rw [(toB_nil_iff name).2 h.1, h.2, k8]; rfl
        · refine ev_neg ?_ (ev_neg (by simp [k8]) (ev_neg (by simp [k8]) (ev_ret (if_neg h).symm)))
          intro hc
          simp only [Bool.and_eq_true, beq_iff_eq] at hc
          exact h ⟨(toB_nil_iff name).1 hc.2.1, hc.2.2⟩
      refine ev_neg (by simp [k8]) ?_
      by_cases k9 : kind = 9
      · have e : cellsOf ⟨kind, name, n, hex, raw⟩ = if hex = false ∧ raw = 0 ∧ (pack name).length = 1 then word 12 (pack name) ++ [n % 4294967296] else [] := by unfold cellsOf; simp only; rw [if_neg k0, if_neg k7, if_neg k8, if_pos k9]
        rw [e]
        by_cases h : hex = false ∧ raw = 0
        · refine ev_pos (by rw [h.1, h.2, k9]; rfl) (ev_bind (impl_Pack_ev name hs) ?_)
          by_cases h1 : (pack name).length = 1
          · obtain ⟨f, hf⟩ := List.length_eq_one_iff.1 h1
            have hff := hpf f (by rw [hf]; simp)
            refine ev_pos (by omega) (ev_pos (by omega) (ev_ret ?_))
            rw [if_pos ⟨h.1, h.2, h1⟩, hf]
            simp only [rd, Int.toNat_zero, List.getD_cons_zero, word, List.map_nil, List.singleton_append]
            rw [show f * 16 % 4294967296 = f * 16 by omega, or_u32 4 (by omega) (by omega) (by omega) (by omega) (by omega)]
          · exact ev_neg (by omega) (ev_ret (if_neg (fun h => h1 h.2.2)).symm)
        · refine ev_neg ?_ (ev_neg (by simp [k9]) (ev_ret (if_neg (fun hc => h ⟨hc.1, hc.2.1⟩)).symm))
          intro hc
          simp only [Bool.and_eq_true, beq_iff_eq, Bool.not_eq_true'] at hc
          exact h hc.2
      have e : cellsOf ⟨kind, name, n, hex, raw⟩ = [] := by unfold cellsOf; simp only; rw [if_neg k0, if_neg k7, if_neg k8, if_neg k9, if_neg (fun h => hb (hb2 h))]
      rw [e]
      exact ev_neg (by simp [k9]) (ev_neg (by simp [k0]) (ev_ret rfl))
  unfold impl_CellsOf.f
  refine ev_bind (ev_eq (impl_nameTag_eq kind)) ?_
  by_cases hp0 : tagOf kind > 0
  · refine ev_pos hp0 (rest _ ?_ ?_)
    · intro h
      simp only [Bool.and_eq_true, beq_iff_eq, Bool.not_eq_true'] at h
      exact ⟨hp0, h⟩
    · intro h
      simp [h.2.1, h.2.2.1, h.2.2.2]
  · exact ev_neg hp0 (rest false (by simp) (fun h => absurd h.1 hp0))

/-! ### impl_ItemOk -/
theorem impl_ItemOk_ev (it : It) (hn : -2147483648 ≤ it.n ∧ it.n ≤ 2147483647) (hs : it.name.length ≤ 1048576) : Ev (fun k => impl_ItemOk.f k it.kind (toB it.name) it.n it.hex it.raw) (decide (0 < (cellsOf it).length)) := by
  refine ev_bind (impl_CellsOf_ev it hn hs) (ev_ret ?_)
  rw [Bool.eq_iff_iff, decide_eq_true_eq, decide_eq_true_eq]; omega

/-! ### impl_Recolor -/
theorem impl_Recolor_ev (it : It) (hn : -2147483648 ≤ it.n ∧ it.n ≤ 2147483647) (hs : it.name.length ≤ 1048576) (k1 : Int) : Ev (fun k => impl_Recolor.f k it.kind (toB it.name) it.n it.hex it.raw k1) (recolor it k1) := by
  have e := impl_ItemOk_ev it hn hs
  have h0 := tagOf_cases it.kind
  have h1 := tagOf_cases k1
  unfold recolor
  by_cases hc : 0 < (cellsOf it).length
  · rw [decide_eq_true hc] at e
    refine ev_bind (ev_eq (impl_nameTag_eq _)) ?_
    refine ev_ite (fun a => ?_) (fun a => ?_)
    · refine ev_bind (ev_eq (impl_nameTag_eq _)) (ev_neg (by omega) (ev_neg (by omega) (ev_bind e (ev_pos rfl ?_))))
      refine ev_ite (fun b => ev_ret (if_pos (by omega)).symm) (fun b => ?_)
      exact ev_ite (fun c => ev_ret (if_pos (by omega)).symm) (fun c => ev_ret (if_neg (by omega)).symm)
    · refine ev_ite (fun b => ?_) (fun b => ?_)
      · refine ev_ite (fun c => ?_) (fun c => ?_)
        · exact ev_bind e (ev_pos rfl (ev_ret (if_pos (by omega)).symm))
        · refine ev_bind e (ev_pos rfl ?_)
          refine ev_ite (fun d => ev_ret (if_pos (by omega)).symm) (fun d => ?_)
          exact ev_ite (fun c => ev_ret (if_pos (by omega)).symm) (fun c => ev_ret (if_neg (by omega)).symm)
      · refine ev_ite (fun c => ?_) (fun c => ?_)
        · refine ev_ite (fun d => ?_) (fun d => ?_)
          · exact ev_bind e (ev_pos rfl (ev_ret (if_pos (by omega)).symm))
          · refine ev_bind e (ev_pos rfl ?_)
            refine ev_ite (fun d => ev_ret (if_pos (by omega)).symm) (fun d => ?_)
            exact ev_ite (fun c => ev_ret (if_pos (by omega)).symm) (fun c => ev_ret (if_neg (by omega)).symm)
        · refine ev_bind e (ev_pos rfl ?_)
          exact ev_ite (fun c => ev_ret (if_pos (by omega)).symm) (fun c => ev_ret (if_neg (by omega)).symm)
  · rw [decide_eq_false hc] at e
    have no : ¬ (false = true) := by simp
    refine ev_bind (ev_eq (impl_nameTag_eq _)) ?_
    refine ev_ite (fun a => ?_) (fun a => ?_)
    · refine ev_bind (ev_eq (impl_nameTag_eq _)) ?_
      refine ev_ite (fun b => ev_ite (fun c => ?_) (fun c => ?_)) (fun b => ev_ite (fun c => ev_ite (fun d => ?_) (fun d => ?_)) (fun c => ?_))
      all_goals exact ev_bind e (ev_neg no (ev_ret (if_neg (fun h => hc h.1)).symm))
    · refine ev_ite (fun b => ev_ite (fun c => ?_) (fun c => ?_)) (fun b => ev_ite (fun c => ev_ite (fun d => ?_) (fun d => ?_)) (fun c => ?_))
      all_goals exact ev_bind e (ev_neg no (ev_ret (if_neg (fun h => hc h.1)).symm))

/-! ### spec_l01New -/
theorem spec_l01New_l0 (l : List Int) (hl : l.length ≤ 1048576) (d : Nat) : ∀ (i : Nat) (h : Int), i + d = l.length → ∃ h', Ev (fun k => spec_l01New.l0 k l h (i : Int)) (l, 0, h') := by
  induction d with
  | zero =>
    intro i h hi
    refine ⟨h, Ev.step (fun k => by rw [spec_l01New.l0]) ?_⟩
    exact ev_neg (by omega) (ev_ret rfl)
  | succ d ih =>
    intro i h hi
    by_cases h4 : (i : Int) < 4000
    · obtain ⟨h', e⟩ := ih (i + 1) (Go.bits .and .i64 (wrap64 ((wrap64 ((wrap64 (h * 131)) + (wrap64 (rd l i)))) + 7)) 1073741823) (by omega)
      refine ⟨h', Ev.step (fun k => by rw [spec_l01New.l0]) ?_⟩
      refine ev_pos (by omega) (ev_pos h4 (ev_pos (by omega) ?_))
      rw [w64 (x := (i : Int) + 1) (by omega) (by omega), show ((i : Int) + 1) = ((i + 1 : Nat) : Int) by omega]
      exact e
    · refine ⟨h, Ev.step (fun k => by rw [spec_l01New.l0]) ?_⟩
      exact ev_pos (by omega) (ev_neg h4 (ev_ret rfl))
theorem spec_l01New_ev (l : List Int) (hl : l.length ≤ 1048576) : ∃ h, Ev (fun k => spec_l01New.f k l) (l, 0, h) := spec_l01New_l0 l hl l.length 0 _ (by omega)

/-! ### spec_l01Byte -/
theorem spec_l01Byte_eq {b : List Int} {i : Int} (h : Int) (hc : Cur b i) : ∃ r i' h', spec_l01Byte.f b i h = some (r, i', h') ∧ 0 ≤ r ∧ r ≤ 255 ∧ Cur b i' := by
  obtain ⟨c0, c1, c2⟩ := hc
  unfold spec_l01Byte.f
  by_cases hlt : i < (b.length : Int)
  · rw [if_pos hlt, if_pos c1]
    have := and_255 (wrap64 ((Go.bits .and .i64 (Go.bits .xor .i64 ((wrap64 ((wrap64 (h * 6364136223846793005)) + 1442695040888963407)) / 8589934592) ((wrap64 ((wrap64 (h * 6364136223846793005)) + 1442695040888963407)) / 35184372088832)) 255) + (wrap64 (rd b i))))
    exact ⟨_, _, _, rfl, this.1, this.2, c0, by rw [w64 (by omega) (by omega)]; omega, by rw [w64 (by omega) (by omega)]; omega⟩
  · rw [if_neg hlt]
    have := and_255 (Go.bits .xor .i64 ((wrap64 ((wrap64 (h * 6364136223846793005)) + 1442695040888963407)) / 8589934592) ((wrap64 ((wrap64 (h * 6364136223846793005)) + 1442695040888963407)) / 35184372088832))
    exact ⟨_, _, _, rfl, this.1, this.2, c0, c1, c2⟩

/-! ### spec_l01Below -/
theorem spec_l01Below_eq {b : List Int} {i : Int} (h n : Int) (hc : Cur b i) (hn : 0 < n) : ∃ r i' h', spec_l01Below.f b i h n = some (r, i', h') ∧ 0 ≤ r ∧ r < n ∧ Cur b i' := by
  unfold spec_l01Below.f
  rw [if_neg (by omega)]
  by_cases h2 : n ≤ 256
  · obtain ⟨r, i1, h1, e, r0, r1, c1⟩ := spec_l01Byte_eq h hc
    have := tmod_range r0 hn
    rw [if_pos h2, e]
    simp only [Option.bind_some]
    rw [if_neg (by omega)]
    exact ⟨_, _, _, rfl, this.1, this.2, c1⟩
  · obtain ⟨x, i1, h1, e1, x0, x1, c1⟩ := spec_l01Byte_eq h hc
    obtain ⟨y, i2, h2', e2, y0, y1, c2⟩ := spec_l01Byte_eq h1 c1
    obtain ⟨z, i3, h3, e3, z0, z1, c3⟩ := spec_l01Byte_eq h2' c2
    obtain ⟨v, i4, h4, e4, v0, v1, c4⟩ := spec_l01Byte_eq h3 c3
    rw [if_neg h2, e1]
    simp only [Option.bind_some]
    rw [e2]
    simp only [Option.bind_some]
    rw [e3]
    simp only [Option.bind_some]
    rw [e4]
    simp only [Option.bind_some]
    rw [if_neg (by omega)]
    have e5 : (wrap64 ((wrap64 ((wrap64 ((wrap64 (x * 16777216)) + (wrap64 (y * 65536)))) + (wrap64 (z * 256)))) + v)) = x * 16777216 + y * 65536 + z * 256 + v := by
      rw [w64 (x := x * 16777216) (by omega) (by omega), w64 (x := y * 65536) (by omega) (by omega), w64 (x := z * 256) (by omega) (by omega), w64 (x := x * 16777216 + y * 65536) (by omega) (by omega), w64 (x := x * 16777216 + y * 65536 + z * 256) (by omega) (by omega), w64 (by omega) (by omega)]
    rw [e5]
    have := tmod_range (x := x * 16777216 + y * 65536 + z * 256 + v) (by omega) hn
    exact ⟨_, _, _, rfl, this.1, this.2, c4⟩

/-! ### spec_l01Once -/
theorem spec_l01Once_eq {b : List Int} {i : Int} (h n : Int) (hc : Cur b i) (hn : 0 < n) : ∃ r i' h', spec_l01Once.f b i h n = some (r, i', h') ∧ Cur b i' := by
  obtain ⟨r, i', h', e, _, _, c⟩ := spec_l01Below_eq h n hc hn
  unfold spec_l01Once.f
  rw [e]
  exact ⟨_, _, _, rfl, c⟩

/-! ### spec_l01Pick -/
theorem spec_l01Pick_eq {b : List Int} {i : Int} (h : Int) (l : List ByteArray) (hc : Cur b i) (hn : 0 < l.length) : ∃ r i' h', spec_l01Pick.f b i h l = some (r, i', h') ∧ r ∈ l ∧ Cur b i' := by
  obtain ⟨r, i', h', e, r0, r1, c⟩ := spec_l01Below_eq h (l.length : Int) hc (by omega)
  unfold spec_l01Pick.f
  rw [e]
  simp only [Option.bind_some]
  rw [if_pos r0, if_pos r1]
  exact ⟨_, _, _, rfl, rdOf_mem r0 r1, c⟩

/-! ### spec_l01PickInt -/
theorem spec_l01PickInt_eq {b : List Int} {i : Int} (h : Int) (l : List Int) (hc : Cur b i) (hn : 0 < l.length) : ∃ r i' h', spec_l01PickInt.f b i h l = some (r, i', h') ∧ r ∈ l ∧ Cur b i' := by
  obtain ⟨r, i', h', e, r0, r1, c⟩ := spec_l01Below_eq h (l.length : Int) hc (by omega)
  unfold spec_l01PickInt.f
  rw [e]
  simp only [Option.bind_some]
  rw [if_pos r0, if_pos r1]
  exact ⟨_, _, _, rfl, rd_mem r0 r1, c⟩

/-! ### spec_l04Int -/
theorem spec_l04Int_eq {b : List Int} {i : Int} (h : Int) (hc : Cur b i) : ∃ r i' h', spec_l04Int.f b i h = some (r, i', h') ∧ (-2147483648 ≤ r ∧ r ≤ 2147483647) ∧ Cur b i' := by
  obtain ⟨o, i1, h1, e1, c1⟩ := spec_l01Once_eq h 2 hc (by omega)
  unfold spec_l04Int.f
  rw [e1]
  simp only [Option.bind_some]
  cases o with
  | true =>
    obtain ⟨r, i2, h2, e2, r0, r1, c2⟩ := spec_l01Below_eq h1 200 c1 (by omega)
    rw [if_pos rfl, e2]
    exact ⟨_, _, _, rfl, w32_range _, c2⟩
  | false =>
    obtain ⟨r, i2, h2, e2, m2, c2⟩ := spec_l01PickInt_eq h1 (([0, 67108863, 67108864, (-67108864), (-67108865), 2147483647, (-2147483648), 1000000, (-1)] : List Int)) c1 (by decide)
    rw [if_neg (by simp), e2]
    exact ⟨_, _, _, rfl, w32_range _, c2⟩

/-! ### spec_LetterAt -/
theorem spec_LetterAt_eq (k : Int) : spec_LetterAt.f k = some (if 0 ≤ k ∧ k ≤ 47 then bt lettersB k else 0) := by
  unfold spec_LetterAt.f spec_l02All.f
  simp only [spec_l01In_eq, Option.bind_some, decide_eq_true_eq]
  by_cases h : 0 ≤ k ∧ k ≤ 47
  · rw [if_pos h, if_pos h, if_pos h.1, if_pos (by show k < 48; omega)]; rfl
  · rw [if_neg h, if_neg h]

/-! ### spec_l02Name -/
theorem spec_l02Name_l0 {b : List Int} (n d : Nat) (hn : n ≤ 9) : ∀ (j : Nat) (acc : List UInt8) (i h : Int), j + d = n → acc.length = j → (∀ c ∈ acc, 1 ≤ lo c) → Cur b i →
    ∃ nm i' h', Ev (fun k => spec_l02Name.l0 k (acc.map (fun b => (b.toNat : Int))) (n : Int) (j : Int) b i h) (toB nm, i', h') ∧ nm.length = n ∧ (∀ c ∈ nm, 1 ≤ lo c) ∧ Cur b i' := by
  induction d with
  | zero =>
    intro j acc i h hj ha hl hc
    refine ⟨acc, i, h, Ev.step (fun k => by rw [spec_l02Name.l0]) ?_, by omega, hl, hc⟩
    exact ev_neg (by omega) (ev_ret (by rw [strOf_map]))
  | succ d ih =>
    intro j acc i h hj ha hl hc
    obtain ⟨r, i1, h1, e, r0, r1, c1⟩ := spec_l01Below_eq h 47 hc (by omega)
    obtain ⟨nm, i', h', ev, q1, q2, q3⟩ := ih (j + 1) (acc ++ [letter (1 + r)]) i1 h1 (by omega) (by simp; omega) (by
      intro c hc'
      rcases List.mem_append.1 hc' with hc' | hc'
      · exact hl c hc'
      · rw [List.mem_singleton] at hc'
        rw [hc', lo_letter (by omega) (by omega)]; omega) c1
    refine ⟨nm, i', h', Ev.step (fun k => by rw [spec_l02Name.l0]) ?_, q1, q2, q3⟩
    refine ev_pos (by omega) (ev_bind (ev_eq e) (ev_bind (ev_eq (spec_LetterAt_eq _)) (ev_pos (by simp; omega) ?_)))
    simp only
    rw [w64 (x := 1 + r) (by omega) (by omega), if_pos (by omega), bt_letter (by omega) (by omega), map_snoc, w64 (x := (j : Int) + 1) (by omega) (by omega), show ((j : Int) + 1) = ((j + 1 : Nat) : Int) by omega]
    exact ev
theorem spec_l02Name_ev {b : List Int} {i : Int} (h : Int) (hc : Cur b i) : ∃ nm i' h', Ev (fun k => spec_l02Name.f k b i h) (toB nm, i', h') ∧ okName nm = true ∧ nm.length ≤ 9 ∧ Cur b i' := by
  obtain ⟨r, i1, h1, e1, c1⟩ := spec_l01Once_eq h 2 hc (by omega)
  cases r with
  | true =>
    obtain ⟨s, i2, h2, e2, m2, c2⟩ := spec_l01Pick_eq h1 (([(⟨#[100, 117, 112]⟩ : ByteArray), (⟨#[111, 118, 101, 114]⟩ : ByteArray), (⟨#[115, 113, 117, 97, 114, 101]⟩ : ByteArray), (⟨#[97, 33]⟩ : ByteArray), (⟨#[50, 42]⟩ : ByteArray), (⟨#[103, 111]⟩ : ByteArray), (⟨#[45, 105, 102]⟩ : ByteArray), (⟨#[59]⟩ : ByteArray), (⟨#[63]⟩ : ByteArray), (⟨#[114, 114, 114, 114, 114, 114, 114]⟩ : ByteArray), (⟨#[114, 116, 111, 101, 97, 110, 105]⟩ : ByteArray), (⟨#[119, 119, 119, 119, 119, 119]⟩ : ByteArray), (⟨#[113, 113, 113, 113, 113]⟩ : ByteArray), (⟨#[120]⟩ : ByteArray)] : List ByteArray)) c1 (by decide)
    have hall : (([(⟨#[100, 117, 112]⟩ : ByteArray), (⟨#[111, 118, 101, 114]⟩ : ByteArray), (⟨#[115, 113, 117, 97, 114, 101]⟩ : ByteArray), (⟨#[97, 33]⟩ : ByteArray), (⟨#[50, 42]⟩ : ByteArray), (⟨#[103, 111]⟩ : ByteArray), (⟨#[45, 105, 102]⟩ : ByteArray), (⟨#[59]⟩ : ByteArray), (⟨#[63]⟩ : ByteArray), (⟨#[114, 114, 114, 114, 114, 114, 114]⟩ : ByteArray), (⟨#[114, 116, 111, 101, 97, 110, 105]⟩ : ByteArray), (⟨#[119, 119, 119, 119, 119, 119]⟩ : ByteArray), (⟨#[113, 113, 113, 113, 113]⟩ : ByteArray), (⟨#[120]⟩ : ByteArray)] : List ByteArray)).all (fun s => okName s.data.toList && decide (s.data.toList.length ≤ 9)) = true := by decide +kernel
    have hs := List.all_eq_true.1 hall s m2
    rw [Bool.and_eq_true, decide_eq_true_eq] at hs
    refine ⟨s.data.toList, i2, h2, ?_, hs.1, hs.2, c2⟩
    exact ev_bind (ev_eq e1) (ev_pos rfl (ev_bind (ev_eq e2) (ev_ret (by rw [toB_self]))))
  | false =>
    obtain ⟨r, i2, h2, e2, r0, r1, c2⟩ := spec_l01Below_eq h1 9 c1 (by omega)
    obtain ⟨nm, i3, h3, e3, q1, q2, q3⟩ := spec_l02Name_l0 (b := b) (1 + r).toNat (1 + r).toNat (by omega) 0 [] i2 h2 (by omega) rfl (by simp) c2
    refine ⟨nm, i3, h3, ?_, (okName_iff nm).2 ⟨by omega, by omega, q2⟩, by omega, q3⟩
    refine ev_bind (ev_eq e1) (ev_neg (by simp) (ev_bind (ev_eq e2) ?_))
    simp only
    rw [w64 (x := 1 + r) (by omega) (by omega), show (1 + r : Int) = (((1 + r).toNat : Nat) : Int) by omega]
    exact e3

/-! ### spec_l04Some -/
theorem spec_l04Some_ev {b : List Int} {i : Int} (h : Int) (hc : Cur b i) : ∃ (it : It) (i' h' : Int), Ev (fun k => spec_l04Some.f k b i h) (it.kind, toB it.name, it.n, it.hex, it.raw, i', h') ∧ (-2147483648 ≤ it.n ∧ it.n ≤ 2147483647) ∧ it.raw = 0 ∧ it.name.length ≤ 9 ∧ Cur b i' := by
  obtain ⟨q, i1, h1, e1, q0, q1, c1⟩ := spec_l01Below_eq h 8 hc (by omega)
  by_cases g0 : q = 0
  · obtain ⟨n, i2, h2, e2, hn, c2⟩ := spec_l04Int_eq h1 c1
    obtain ⟨o, i3, h3, e3, c3⟩ := spec_l01Once_eq h2 3 c2 (by omega)
    exact ⟨⟨7, [], n, o, 0⟩, i3, h3, ev_bind (ev_eq e1) (ev_pos g0 (ev_bind (ev_eq e2) (ev_bind (ev_eq e3) (ev_ret rfl)))), hn, rfl, by simp, c3⟩
  by_cases g1 : q = 1
  · obtain ⟨n, i2, h2, e2, hn, c2⟩ := spec_l04Int_eq h1 c1
    obtain ⟨o, i3, h3, e3, c3⟩ := spec_l01Once_eq h2 3 c2 (by omega)
    exact ⟨⟨8, [], n, o, 0⟩, i3, h3, ev_bind (ev_eq e1) (ev_neg g0 (ev_pos g1 (ev_bind (ev_eq e2) (ev_bind (ev_eq e3) (ev_ret rfl))))), hn, rfl, by simp, c3⟩
  by_cases g2 : q = 2
  · obtain ⟨s, i2, h2, e2, m2, c2⟩ := spec_l01Pick_eq h1 (([(⟨#[120]⟩ : ByteArray), (⟨#[97, 116]⟩ : ByteArray), (⟨#[113, 113, 113, 113]⟩ : ByteArray), (⟨#[116, 101, 110]⟩ : ByteArray)] : List ByteArray)) c1 (by decide)
    obtain ⟨n, i3, h3, e3, hn, c3⟩ := spec_l04Int_eq h2 c2
    have hall : (([(⟨#[120]⟩ : ByteArray), (⟨#[97, 116]⟩ : ByteArray), (⟨#[113, 113, 113, 113]⟩ : ByteArray), (⟨#[116, 101, 110]⟩ : ByteArray)] : List ByteArray)).all (fun s => decide (s.data.toList.length ≤ 9)) = true := by decide +kernel
    have hs := List.all_eq_true.1 hall s m2
    exact ⟨⟨9, s.data.toList, n, false, 0⟩, i3, h3, ev_bind (ev_eq e1) (ev_neg g0 (ev_neg g1 (ev_pos g2 (ev_bind (ev_eq e2) (ev_bind (ev_eq e3) (ev_ret (by simp only; rw [toB_self]))))))), hn, rfl, by simpa using hs, c3⟩
  · obtain ⟨t, i2, h2, e2, t0, t1, c2⟩ := spec_l01Below_eq h1 6 c1 (by omega)
    obtain ⟨nm, i3, h3, e3, o3, l3, c3⟩ := spec_l02Name_ev (b := b) h2 c2
    exact ⟨⟨wrap64 (1 + t), nm, 0, false, 0⟩, i3, h3, ev_bind (ev_eq e1) (ev_neg g0 (ev_neg g1 (ev_neg g2 (ev_bind (ev_eq e2) (ev_bind e3 (ev_ret rfl)))))), by simp, rfl, l3, c3⟩

/-! ### spec_l01Word -/
theorem spec_l01Word_eq {b : List Int} {i : Int} (h : Int) (hc : Cur b i) : ∃ r i' h', spec_l01Word.f b i h = some (r, i', h') ∧ (0 ≤ r ∧ r ≤ 4294967295) ∧ Cur b i' := by
  obtain ⟨q, i1, h1, e1, q0, q1, c1⟩ := spec_l01Below_eq h 4 hc (by omega)
  unfold spec_l01Word.f
  rw [e1]
  simp only [Option.bind_some]
  by_cases g0 : q = 0
  · obtain ⟨r, i2, h2, e2, m2, c2⟩ := spec_l01PickInt_eq h1 (([0, 1, 2, 31, 32, 255, 256, 2147483647, 2147483648, 4294967295, 4294967294] : List Int)) c1 (by decide)
    rw [if_pos g0, e2]
    exact ⟨_, _, _, rfl, by simp only; omega, c2⟩
  by_cases g1 : q = 1
  · obtain ⟨r, i2, h2, e2, r0, r1, c2⟩ := spec_l01Below_eq h1 300 c1 (by omega)
    rw [if_neg g0, if_pos g1, e2]
    exact ⟨_, _, _, rfl, by simp only; omega, c2⟩
  · obtain ⟨r, i2, h2, e2, r0, r1, c2⟩ := spec_l01Below_eq h1 65536 c1 (by omega)
    obtain ⟨s, i3, h3, e3, s0, s1, c3⟩ := spec_l01Below_eq h2 65536 c2 (by omega)
    rw [if_neg g0, if_neg g1, e2]
    simp only [Option.bind_some]
    rw [e3]
    exact ⟨_, _, _, rfl, by simp only; omega, c3⟩

/-! ### spec_l04Any -/
theorem spec_l04Any_ev {b : List Int} {i : Int} (h : Int) (hc : Cur b i) : ∃ (it : It) (i' h' : Int), Ev (fun k => spec_l04Any.f k b i h) (it.kind, toB it.name, it.n, it.hex, it.raw, i', h') ∧ (-2147483648 ≤ it.n ∧ it.n ≤ 2147483647) ∧ (0 ≤ it.raw ∧ it.raw ≤ 4294967295) ∧ it.name.length ≤ 12 ∧ Cur b i' := by
  obtain ⟨it, i1, h1, e1, p1, p2, p3, c1⟩ := spec_l04Some_ev (b := b) h hc
  obtain ⟨q, i2, h2, e2, q0, q1, c2⟩ := spec_l01Below_eq h1 14 c1 (by omega)
  by_cases g0 : q = 0
  · obtain ⟨r, i3, h3, e3, r0, c3⟩ := spec_l01Word_eq h2 c2
    exact ⟨⟨0, [], 0, false, r⟩, i3, h3, ev_bind e1 (ev_bind (ev_eq e2) (ev_pos g0 (ev_bind (ev_eq e3) (ev_ret rfl)))), by simp, r0, by simp, c3⟩
  by_cases g1 : q = 1
  · obtain ⟨r, i3, h3, e3, r0, r1, c3⟩ := spec_l01Below_eq h2 12 c2 (by omega)
    exact ⟨⟨wrap64 (r - 1), it.name, it.n, it.hex, it.raw⟩, i3, h3, ev_bind e1 (ev_bind (ev_eq e2) (ev_neg g0 (ev_pos g1 (ev_bind (ev_eq e3) (ev_ret rfl))))), p1, by simp only; omega, by simp only; omega, c3⟩
  by_cases g2 : q = 2
  · obtain ⟨s, i3, h3, e3, m3, c3⟩ := spec_l01Pick_eq h2 (([(⟨#[]⟩ : ByteArray), (⟨#[65]⟩ : ByteArray), (⟨#[113, 113, 113, 113, 113]⟩ : ByteArray), (⟨#[115, 113, 117, 97, 114, 101, 115, 113, 117, 97, 114, 101]⟩ : ByteArray)] : List ByteArray)) c2 (by decide)
    have hall : (([(⟨#[]⟩ : ByteArray), (⟨#[65]⟩ : ByteArray), (⟨#[113, 113, 113, 113, 113]⟩ : ByteArray), (⟨#[115, 113, 117, 97, 114, 101, 115, 113, 117, 97, 114, 101]⟩ : ByteArray)] : List ByteArray)).all (fun s => decide (s.data.toList.length ≤ 12)) = true := by decide +kernel
    have hs := List.all_eq_true.1 hall s m3
    exact ⟨⟨it.kind, s.data.toList, it.n, it.hex, it.raw⟩, i3, h3, ev_bind e1 (ev_bind (ev_eq e2) (ev_neg g0 (ev_neg g1 (ev_pos g2 (ev_bind (ev_eq e3) (ev_ret (by simp only; rw [toB_self]))))))), p1, by simp only; omega, by simpa using hs, c3⟩
  by_cases g3 : q = 3
  · obtain ⟨r, i3, h3, e3, r0, r1, c3⟩ := spec_l01Below_eq h2 3 c2 (by omega)
    exact ⟨⟨it.kind, it.name, it.n, it.hex, r % 4294967296⟩, i3, h3, ev_bind e1 (ev_bind (ev_eq e2) (ev_neg g0 (ev_neg g1 (ev_neg g2 (ev_pos g3 (ev_bind (ev_eq e3) (ev_ret rfl))))))), p1, by simp only; omega, by simp only; omega, c3⟩
  · exact ⟨it, i2, h2, ev_bind e1 (ev_bind (ev_eq e2) (ev_neg g0 (ev_neg g1 (ev_neg g2 (ev_neg g3 (ev_ret rfl)))))), p1, by omega, by omega, c2⟩

/-! ### spec_DrawRecolor -/
theorem spec_DrawRecolor_ev (l : List Int) (hl : l.length ≤ 1048576) : ∃ (it : It) (k1 : Int), Ev (fun k => spec_DrawRecolor.f k l) (it.kind, toB it.name, it.n, it.hex, it.raw, k1) ∧ (-2147483648 ≤ it.n ∧ it.n ≤ 2147483647) ∧ it.name.length ≤ 12 := by
  obtain ⟨h, e⟩ := spec_l01New_ev l hl
  obtain ⟨it, i1, h1, e1, p1, p2, p3, c1⟩ := spec_l04Any_ev (b := l) (i := 0) h ⟨hl, by omega, by omega⟩
  obtain ⟨q, i2, h2, e2, q0, q1, c2⟩ := spec_l01Below_eq h1 12 c1 (by omega)
  exact ⟨it, _, ev_bind e (ev_bind e1 (ev_bind (ev_eq e2) (ev_ret rfl))), p1, p3⟩

/-! ### FnColor -/
theorem FnColor : laws_FnColor.Pure := by
  intro l hl hz hw
  refine Ev.rounds (r := true) ?_
  refine ev_bind (ev_eq (laws_big_eq l)) ?_
  by_cases hs : (l.length : Int) > 1048576
  · exact ev_pos (decide_eq_true hs) (ev_ret rfl)
  refine ev_neg (by simpa using hs) ?_
  obtain ⟨it, k1, e, hn, hs⟩ := spec_DrawRecolor_ev l (by omega)
  refine ev_bind e (ev_bind (impl_Recolor_ev it hn (by omega) k1) (ev_bind (spec_Recolor_ev it hn k1) (ev_neg (by simp) ?_)))
  by_cases h : 0 < (cellsOf it).length ∧ ((1 ≤ it.kind ∧ it.kind ≤ 6 ∧ 1 ≤ k1 ∧ k1 ≤ 6) ∨ (7 ≤ it.kind ∧ it.kind ≤ 8 ∧ 7 ≤ k1 ∧ k1 ≤ 8) ∨ it.kind = k1)
  · have er : recolor it k1 = (k1, toB it.name, it.n, it.hex, it.raw, true) := if_pos h
    have el := color_length it k1 h.2
    have eb : recolor ⟨k1, it.name, it.n, it.hex, it.raw⟩ it.kind = (it.kind, toB it.name, it.n, it.hex, it.raw, true) := if_pos ⟨by omega, by simp only; omega⟩
    have e2 := impl_Recolor_ev ⟨k1, it.name, it.n, it.hex, it.raw⟩ hn (by simp only; omega) it.kind
    have e3 := impl_CellsOf_ev ⟨k1, it.name, it.n, it.hex, it.raw⟩ hn (by simp only; omega)
    have e4 := impl_CellsOf_ev it hn (by omega)
    rw [eb] at e2
    rw [er]
    refine ev_pos rfl (ev_bind e2 (ev_pos rfl (ev_pos (by simp) (ev_bind e3 (ev_bind e4 (ev_pos (by rw [el]) (ev_ret ?_)))))))
    simp
  · rw [show recolor it k1 = (0, ⟨#[]⟩, 0, false, 0, false) from if_neg h]
    refine ev_neg (by simp) (ev_ret ?_)
    rw [ba_toList]
    rfl

end Go.Proofs.Ytkkiibjnpkjijaa.Pure
