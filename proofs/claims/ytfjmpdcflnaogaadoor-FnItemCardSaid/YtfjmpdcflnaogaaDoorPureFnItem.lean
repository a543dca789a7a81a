/-
The law FnItem holds of the printed plain functions, for all arguments that the printed bounds allow.
-/
import Derived.Test.YtfjmpdcflnaogaaDoorQFnItemx1
import Derived.Test.YtfjmpdcflnaogaaDoorQFnItemx2
import Derived.Test.YtfjmpdcflnaogaaDoorQFnItemx3
import Derived.Test.YtfjmpdcflnaogaaDoorQFnItemx4
import Derived.Test.YtfjmpdcflnaogaaDoorQFnItemx5
import Derived.Test.YtfjmpdcflnaogaaDoorQFnItemx6
import Derived.Test.YtfjmpdcflnaogaaDoorQFnItemx7
import Derived.Test.YtfjmpdcflnaogaaDoorQFnItemx8
import Derived.Test.YtfjmpdcflnaogaaDoorTools
import Derived.Test.YtfjmpdcflnaogaaDoorLetters
import Derived.Test.YtfjmpdcflnaogaaDoorHeads
import Derived.Test.YtfjmpdcflnaogaaDoorSpots
import Derived.Test.YtfjmpdcflnaogaaDoorNames
import Derived.Test.YtfjmpdcflnaogaaDoorItems
import Derived.Test.YtfjmpdcflnaogaaDoorRound
import Derived.Test.YtfjmpdcflnaogaaDoorDraws
import Derived.Test.YtfjmpdcflnaogaaDoorCells
import Derived.Test.YtfjmpdcflnaogaaDoorDecs
import Derived.Test.YtfjmpdcflnaogaaDoorReadDecs
namespace Go.Proofs.YtfjmpdcflnaogaaDoor.Pure
open Go.RowKit Go.Proofs.YtfjmpdcflnaogaaDoor.QFnItem Go.Proofs.YtfjmpdcflnaogaaDoorW.PrintWords Go.Proofs.YtfjmpdcflnaogaaDoorW.PrintLast Go.Proofs.YtfjmpdcflnaogaaDoorW.PrintMore Go.Proofs.YtfjmpdcflnaogaaDoor.Tools Go.Proofs.YtfjmpdcflnaogaaDoor.Plain
set_option linter.unusedVariables false

/-! ### impl_nameTag -/
theorem impl_nameTag_eq (k : Int) : impl_nameTag.f k = some (tagOf k) := by
  unfold impl_nameTag.f tagOf
  repeat' split
  all_goals rfl

/-! ### strings_IndexByte -/
theorem strings_IndexByte_eq (b : UInt8) : strings_IndexByte.f lettersB (b.toNat : Int) = some (lo b) := by
  unfold strings_IndexByte.f stringslite_IndexByte.f lo
  simp

/-! ### impl_LetterOf -/
theorem impl_LetterOf_eq (b : UInt8) : impl_LetterOf.f (b.toNat : Int) = some (lo b) := by
  unfold impl_LetterOf.f
  have e : impl_letters.f = some lettersB := rfl
  rw [e]
  simp only [Option.bind_some]
  rw [strings_IndexByte_eq]
  rfl

/-! ### impl_within -/
theorem impl_within_eq (a b c : Int) : impl_within.f a b c = some (decide (b ≤ a ∧ a ≤ c)) := by
  unfold impl_within.f
  by_cases h : b ≤ a
  · rw [if_pos h]; simp [h]
  · rw [if_neg h]; simp [h]

/-! ### impl_NameOk -/
theorem impl_NameOk_l0 (s : ByteArray) (hs : s.size ≤ 1048576) (d : Nat) : ∀ i : Nat, i + d = s.size → Ev (fun k => impl_NameOk.l0 k s (s.size : Int) (i : Int)) ((s.data.toList.drop i).all (fun b => decide (1 ≤ lo b)) && decide (1 ≤ s.size ∧ s.size ≤ 24)) := by
  induction d with
  | zero =>
    intro i hi
    refine Ev.step (fun k => by rw [impl_NameOk.l0]) ?_
    refine ev_neg (by omega) (ev_bind (ev_eq (impl_within_eq _ _ _)) (ev_ret ?_))
    rw [List.drop_of_length_le (by rw [← size_eq]; omega), List.all_nil, Bool.true_and]
    rw [Bool.eq_iff_iff, decide_eq_true_eq, decide_eq_true_eq]; omega
  | succ d ih =>
    intro i hi
    have hlt : i < s.size := by omega
    refine Ev.step (fun k => by rw [impl_NameOk.l0]) ?_
    refine ev_pos (by omega) (ev_pos (by omega) (ev_pos (by omega) (ev_bind (ev_eq (by rw [bt_at hlt]; exact impl_LetterOf_eq _)) ?_)))
    rw [drop_cons hlt, List.all_cons]
    by_cases h : 1 ≤ lo s[i]
    · refine ev_neg (by omega) ?_
      rw [w64 (by omega) (by omega), show ((i : Int) + 1) = ((i + 1 : Nat) : Int) by omega, decide_eq_true h, Bool.true_and]
      exact ih (i + 1) (by omega)
    · refine ev_pos (by omega) (ev_ret ?_)
      rw [decide_eq_false h, Bool.false_and, Bool.false_and]
theorem impl_NameOk_ev (s : ByteArray) (hs : s.size ≤ 1048576) : Ev (fun k => impl_NameOk.f k s) (okName s.data.toList) := by
  refine ev_to (impl_NameOk_l0 s hs s.size 0 (by omega)) ?_
  unfold okName
  rw [← size_eq, List.drop_zero, Bool.eq_iff_iff]
  simp only [Bool.and_eq_true, decide_eq_true_eq]
  exact ⟨fun h => ⟨h.2, h.1⟩, fun h => ⟨h.2, h.1⟩⟩

/-! ### impl_WidthOf -/
theorem impl_WidthOf_eq (k : Int) : impl_WidthOf.f k = some (widthOf k) := by
  unfold impl_WidthOf.f widthOf
  simp only [impl_within_eq, Option.bind_some, decide_eq_true_eq]
  by_cases h1 : 0 ≤ k ∧ k ≤ 7
  · rw [if_pos h1, if_pos h1]
  rw [if_neg h1, if_neg h1]
  by_cases h2 : 8 ≤ k ∧ k ≤ 15
  · rw [if_pos h2, if_pos h2]
  rw [if_neg h2, if_neg h2]
  by_cases h3 : 16 ≤ k ∧ k ≤ 47
  · rw [if_pos h3, if_pos h3]
  rw [if_neg h3, if_neg h3]

/-! ### impl_BitsOf -/
theorem impl_BitsOf_eq (k : Int) : impl_BitsOf.f k = some (bitsOf k) := by
  unfold impl_BitsOf.f
  simp only [impl_WidthOf_eq, Option.bind_some]
  rcases width_cases k with ⟨e1, e2, h⟩ | ⟨e1, e2, h⟩ | ⟨e1, e2, h⟩ | ⟨e1, e2, h⟩ <;> rw [e1, e2] <;> simp
  · omega
  · omega
  · omega

/-! ### impl_PackOne -/
theorem impl_PackOne_l0 (s : ByteArray) (hs : s.size ≤ 1000000) (hb : ∀ b ∈ s.data.toList, 1 ≤ lo b) (d : Nat) : ∀ (i : Nat) (f left : Int), i + d = s.size → 0 ≤ left → left ≤ 28 → 0 ≤ f → f % 2 ^ left.toNat = 0 → f + 2 ^ left.toNat ≤ 268435456 →
    Ev (fun k => impl_PackOne.l0 k s f left (i : Int) (s.size : Int) (i : Int)) (f + (one (s.data.toList.drop i) left).1, (i : Int) + ((one (s.data.toList.drop i) left).2 : Int)) := by
  induction d with
  | zero =>
    intro i f left hi h0 h1 h2 hm h3
    have := two_pow_pos left.toNat
    refine Ev.step (fun k => by rw [impl_PackOne.l0]) ?_
    refine ev_neg (by omega) (ev_ret ?_)
    rw [List.drop_of_length_le (by rw [← size_eq]; omega), one]
    simp
  | succ d ih =>
    intro i f left hi h0 h1 h2 hm0 h3
    have hlt : i < s.size := by omega
    have hp := two_pow_pos left.toNat
    have hl1 := hb s[i] (by rw [getB hlt]; exact List.getElem_mem _)
    have hlr := lo_range s[i]
    have w := width_in (k := lo s[i]) (by omega) (by omega)
    rw [drop_cons hlt, one]
    refine Ev.step (fun k => by rw [impl_PackOne.l0]) ?_
    refine ev_pos (by omega) (ev_pos (by omega) (ev_pos (by omega) (ev_bind (ev_eq (by rw [bt_at hlt]; exact impl_LetterOf_eq _)) (ev_bind (ev_eq (impl_WidthOf_eq _)) ?_))))
    by_cases hw : widthOf (lo s[i]) > left
    · rw [if_pos hw]
      refine ev_pos hw (ev_ret ?_)
      simp
    · rw [if_neg hw]
      have e : left.toNat = (widthOf (lo s[i])).toNat + (left - widthOf (lo s[i])).toNat := by omega
      have hq := two_pow_pos (left - widthOf (lo s[i])).toNat
      have hm : (bitsOf (lo s[i]) + 1) * 2 ^ (left - widthOf (lo s[i])).toNat ≤ 2 ^ left.toNat := by
        rw [e, Int.pow_add]; exact Int.mul_le_mul_of_nonneg_right (by omega) (by omega)
      rw [Int.add_mul] at hm
      have hn := Int.mul_nonneg w.2.2.1 (show 0 ≤ (2 : Int) ^ (left - widthOf (lo s[i])).toNat by omega)
      refine ev_neg hw (ev_bind (ev_eq (impl_WidthOf_eq _)) (ev_bind (ev_eq (impl_BitsOf_eq _)) (ev_pos (by rw [w64 (by omega) (by omega)]; omega) ?_)))
      rw [w64 (x := left - widthOf (lo s[i])) (by omega) (by omega), shl_u32 w.2.2.1 (by omega) (by omega), w64 (by omega) (by omega), show ((i : Int) + 1) = ((i + 1 : Nat) : Int) by omega]
      rw [or_u32 left.toNat (by omega) hm0 (by omega) (by omega) (by omega)]
      refine ev_to (ih (i + 1) _ _ (by omega) (by omega) (by omega) (by omega) ?_ (by omega)) ?_
      · have e2 : (f + bitsOf (lo s[i]) * 2 ^ (left - widthOf (lo s[i])).toNat) = (2 : Int) ^ (left - widthOf (lo s[i])).toNat * (2 ^ (widthOf (lo s[i])).toNat * (f / 2 ^ left.toNat) + bitsOf (lo s[i])) := by
          have h4 := Int.mul_ediv_add_emod f (2 ^ left.toNat)
          rw [hm0, e, Int.pow_add] at h4
          rw [Int.mul_add, Int.mul_comm (bitsOf _), e, Int.pow_add]
          rw [← Int.mul_assoc, Int.mul_comm (2 ^ (left - widthOf (lo s[i])).toNat) (2 ^ (widthOf (lo s[i])).toNat)]
          omega
        rw [e2, Int.mul_emod_right]
      · simp only [Prod.mk.injEq]
        constructor <;> omega
theorem impl_PackOne_ev (l : List UInt8) (hl : l.length ≤ 1048576) : Ev (fun k => impl_PackOne.f k (toB l)) (if okName l = true then ((one l 28).1, ((one l 28).2 : Int)) else (0, 0)) := by
  refine ev_bind (impl_NameOk_ev (toB l) (by rw [toB_size]; omega)) ?_
  rw [toB_data]
  by_cases h : okName l = true
  · rw [if_pos h]
    obtain ⟨h1, h2, h3⟩ := (okName_iff l).1 h
    refine ev_pos h (ev_to (impl_PackOne_l0 (toB l) (by rw [toB_size]; omega) h3 l.length 0 0 28 (by rw [toB_size]; omega) (by omega) (by omega) (by omega) (by simp) (by decide)) ?_)
    rw [toB_data]; simp
  · rw [if_neg h]
    exact ev_neg h (ev_ret rfl)

/-! ### impl_Pack -/
theorem impl_Pack_l0 (n : Nat) : ∀ (l : List UInt8) (out : List Int), l.length ≤ n → n ≤ 24 → (∀ b ∈ l, 1 ≤ lo b) → out.length + l.length ≤ 1000000 → Ev (fun k => impl_Pack.l0 k (toB l) out) (out ++ packF l.length l) := by
  have stop : ∀ out : List Int, Ev (fun k => impl_Pack.l0 k (toB []) out) (out ++ packF 0 []) := by
    intro out
    refine Ev.step (fun k => by rw [impl_Pack.l0]) ?_
    refine ev_bind (impl_NameOk_ev _ (by decide)) (ev_neg (by decide) (ev_ret ?_))
    simp [packF]
  induction n with
  | zero =>
    intro l out hl hn hb ho
    have : l = [] := List.eq_nil_of_length_eq_zero (by omega)
    subst this
    exact stop out
  | succ n ih =>
    intro l out hl hn hb ho
    by_cases h : l = []
    · subst h; exact stop out
    · have h1 := one_pos h (left := 28) (by omega)
      have h2 := one_range l 28 (by omega) (by omega) hb
      have hok : okName l = true := (okName_iff l).2 ⟨List.length_pos_iff.2 h, by omega, hb⟩
      have hone := impl_PackOne_ev l (by omega)
      rw [if_pos hok] at hone
      refine Ev.step (fun k => by rw [impl_Pack.l0]) ?_
      refine ev_bind (impl_NameOk_ev _ (by rw [toB_size]; omega)) (ev_pos (by rw [toB_data]; exact hok) (ev_bind hone (ev_pos (by omega) (ev_pos (by simp only; omega) (ev_pos (by rw [toB_size]; simp only; omega) ?_)))))
      rw [packF_step h, extract_eq, toB_data, toB_size, List.take_of_length_le (by omega)]
      simp only [Int.toNat_natCast]
      refine ev_to (ih (l.drop (one l 28).2) (out ++ [(one l 28).1]) (by rw [List.length_drop]; omega) (by omega) (fun b hb' => hb b (List.mem_of_mem_drop hb')) (by simp only [List.length_append, List.length_drop, List.length_cons, List.length_nil]; omega)) ?_
      simp
theorem impl_Pack_ev (l : List UInt8) (hl : l.length ≤ 1048576) : Ev (fun k => impl_Pack.f k (toB l)) (pack l) := by
  unfold pack
  by_cases h : okName l = true
  · rw [if_pos h]
    obtain ⟨h1, h2, h3⟩ := (okName_iff l).1 h
    exact impl_Pack_l0 l.length l [] (by omega) h2 h3 (by simp; omega)
  · rw [if_neg h]
    refine Ev.step (g := fun k => impl_Pack.l0 k (toB l) []) (fun k => by rw [impl_Pack.l0]) ?_
    exact ev_bind (impl_NameOk_ev _ (by rw [toB_size]; omega)) (ev_neg (by rw [toB_data]; exact h) (ev_ret rfl))

/-! ### impl_numberCells -/
theorem impl_numberCells_eq (n : Int) (hex : Bool) (s l : Int) (hn : -2147483648 ≤ n ∧ n ≤ 2147483647) (hs : 0 ≤ s ∧ s ≤ 15) (hl : 0 ≤ l ∧ l ≤ 15) : impl_numberCells.f n hex s l = some (numCells n hex s l) := by
  unfold impl_numberCells.f numCells bitOf
  have e0 : (n % 4294967296 * 32) % 4294967296 = n % 134217728 * 32 := by omega
  have em : n % 134217728 * 32 % 2 ^ 5 = 0 := by omega
  rw [e0]
  cases hex
  · simp only [Bool.false_eq_true, if_false]
    rw [or_u32 (x := n % 134217728 * 32) (y := 0) 0 (by omega) (by simp) (by omega) (by omega) (by omega), or_u32 (x := n % 134217728 * 32 + 0) (y := s) 4 (by omega) (by omega) hs.1 (by omega) (by omega), or_u32 (x := 0) (y := l) 4 (by omega) (by omega) hl.1 (by omega) (by omega)]
    by_cases h : -67108864 ≤ n ∧ n ≤ 67108863
    · rw [if_pos h.1, if_pos h.2, if_pos h]
    · rw [if_neg h]
      by_cases h1 : n ≥ -67108864
      · rw [if_pos h1, if_neg (by omega)]
      · rw [if_neg h1]
  · simp only [if_true]
    rw [or_u32 (x := n % 134217728 * 32) (y := 16) 5 (by omega) em (by omega) (by omega) (by omega), or_u32 (x := n % 134217728 * 32 + 16) (y := s) 4 (by omega) (by omega) hs.1 (by omega) (by omega), or_u32 (x := 16) (y := l) 4 (by omega) (by omega) hl.1 (by omega) (by omega)]
    by_cases h : -67108864 ≤ n ∧ n ≤ 67108863
    · rw [if_pos h.1, if_pos h.2, if_pos h]
    · rw [if_neg h]
      by_cases h1 : n ≥ -67108864
      · rw [if_pos h1, if_neg (by omega)]
      · rw [if_neg h1]

/-! ### impl_CellsOf -/
theorem impl_CellsOf_l0 (fs : List Int) (hf : ∀ f ∈ fs, 0 ≤ f ∧ f < 268435456) (hl : fs.length ≤ 24) (d : Nat) : ∀ (i : Nat) (t : Int) (out : List Int), i + d = fs.length → 0 ≤ t ∧ t ≤ 15 → out.length ≤ i →
    Ev (fun k => impl_CellsOf.l0 k t out fs (fs.length : Int) (i : Int)) (out ++ word t (fs.drop i)) := by
  induction d with
  | zero =>
    intro i t out hi ht ho
    refine Ev.step (fun k => by rw [impl_CellsOf.l0]) ?_
    refine ev_neg (by omega) (ev_ret ?_)
    rw [List.drop_of_length_le (by omega), word, List.append_nil]
  | succ d ih =>
    intro i t out hi ht ho
    have hlt : i < fs.length := by omega
    have hfi := hf fs[i] (List.getElem_mem _)
    refine Ev.step (fun k => by rw [impl_CellsOf.l0]) ?_
    refine ev_pos (by omega) (ev_pos (by omega) (ev_pos (by omega) (ev_pos (by omega) ?_)))
    rw [rd_nat hlt, w64 (by omega) (by omega), show ((i : Int) + 1) = ((i + 1 : Nat) : Int) by omega]
    rw [show fs[i] * 16 % 4294967296 = fs[i] * 16 by omega, or_u32 4 (by omega) (by omega) ht.1 (by omega) (by omega)]
    refine ev_to (ih (i + 1) 0 _ (by omega) (by omega) (by rw [List.length_append, List.length_singleton]; omega)) ?_
    rw [word_zero, List.drop_eq_getElem_cons hlt, word, List.append_assoc]
    rfl
theorem impl_CellsOf_ev (it : It) (hn : -2147483648 ≤ it.n ∧ it.n ≤ 2147483647) (hs : it.name.length ≤ 1048576) : Ev (fun k => impl_CellsOf.f k it.kind (toB it.name) it.n it.hex it.raw) (cellsOf it) := by
  obtain ⟨kind, name, n, hex, raw⟩ := it
  simp only at hn hs ⊢
  have hp := pack_length name
  have hpf : ∀ f ∈ pack name, 0 ≤ f ∧ f < 268435456 := fun f hf => (pack_fields f hf).2
  have ht := tagOf_range kind
  have rest : ∀ b : Bool, (b = true → 0 < tagOf kind ∧ n = 0 ∧ hex = false ∧ raw = 0) → (0 < tagOf kind ∧ n = 0 ∧ hex = false ∧ raw = 0 → b = true) → Ev (fun k => impl_CellsOf.j0 k (tagOf kind) b kind (toB name) n hex raw) (cellsOf ⟨kind, name, n, hex, raw⟩) := by
    intro b hb1 hb2
    refine Ev.step (fun k => by rw [impl_CellsOf.j0]) ?_
    by_cases hb : b = true
    · obtain ⟨q1, q2⟩ := hb1 hb
      have := tagOf_pos q1
      have e : cellsOf ⟨kind, name, n, hex, raw⟩ = word (tagOf kind) (pack name) := by unfold cellsOf; simp only; rw [if_neg (by omega), if_neg (by omega), if_neg (by omega), if_neg (by omega), if_pos ⟨q1, q2⟩]
      rw [e]
      refine ev_pos hb (ev_bind (impl_Pack_ev name hs) ?_)
      have := impl_CellsOf_l0 (pack name) hpf hp (pack name).length 0 (tagOf kind) [] (Nat.zero_add _) (by omega) (Nat.le_refl _)
      simpa using this
    · refine ev_neg hb ?_
      by_cases k0 : kind = 0
      · have e : cellsOf ⟨kind, name, n, hex, raw⟩ = if name = [] ∧ n = 0 ∧ hex = false then [raw] else [] := by unfold cellsOf; simp only; rw [if_pos k0]
        rw [e]
        refine ev_neg (by simp [k0]) (ev_neg (by simp [k0]) (ev_neg (by simp [k0]) ?_))
        by_cases h : name = [] ∧ n = 0 ∧ hex = false
        · refine ev_pos ?_ (ev_ret (if_pos h).symm)
          obtain ⟨h1, h2, h3⟩ := h
          rw [(toB_nil_iff name).2 h1, h2, h3, k0]; rfl
        · refine ev_neg ?_ (ev_ret (if_neg h).symm)
          intro hc
          simp only [Bool.and_eq_true, beq_iff_eq, Bool.not_eq_true'] at hc
          exact h ⟨(toB_nil_iff name).1 hc.2.1, hc.2.2.1, hc.2.2.2⟩
      by_cases k7 : kind = 7
      · have e : cellsOf ⟨kind, name, n, hex, raw⟩ = if name = [] ∧ raw = 0 then numCells n hex 8 2 else [] := by unfold cellsOf; simp only; rw [if_neg k0, if_pos k7]
        rw [e]
        by_cases h : name = [] ∧ raw = 0
        · refine ev_pos ?_ (ev_bind (ev_eq (impl_numberCells_eq n hex 8 2 hn (by omega) (by omega))) (ev_ret (if_pos h).symm))
          rw [(toB_nil_iff name).2 h.1, h.2, k7]; rfl
        · refine ev_neg ?_ (ev_neg (by simp [k7]) (ev_neg (by simp [k7]) (ev_neg (by simp [k7]) (ev_ret (if_neg h).symm))))
          intro hc
          simp only [Bool.and_eq_true, beq_iff_eq] at hc
          exact h ⟨(toB_nil_iff name).1 hc.2.1, hc.2.2⟩
      refine ev_neg (by simp [k7]) ?_
      by_cases k8 : kind = 8
      · have e : cellsOf ⟨kind, name, n, hex, raw⟩ = if name = [] ∧ raw = 0 then numCells n hex 6 5 else [] := by unfold cellsOf; simp only; rw [if_neg k0, if_neg k7, if_pos k8]
        rw [e]
        by_cases h : name = [] ∧ raw = 0
        · refine ev_pos ?_ (ev_bind (ev_eq (impl_numberCells_eq n hex 6 5 hn (by omega) (by omega))) (ev_ret (if_pos h).symm))
          rw [(toB_nil_iff name).2 h.1, h.2, k8]; rfl
        · refine ev_neg ?_ (ev_neg (by simp [k8]) (ev_neg (by simp [k8]) (ev_ret (if_neg h).symm)))
          intro hc
          simp only [Bool.and_eq_true, beq_iff_eq] at hc
          exact h ⟨(toB_nil_iff name).1 hc.2.1, hc.2.2⟩
      refine ev_neg (by simp [k8]) ?_
      by_cases k9 : kind = 9
      · have e : cellsOf ⟨kind, name, n, hex, raw⟩ = if hex = false ∧ raw = 0 ∧ (pack name).length = 1 then word 12 (pack name) ++ [n % 4294967296] else [] := by unfold cellsOf; simp only; rw [if_neg k0, if_neg k7, if_neg k8, if_pos k9]
        rw [e]
        by_cases h : hex = false ∧ raw = 0
        · refine ev_pos (by rw [h.1, h.2, k9]; rfl) (ev_bind (impl_Pack_ev name hs) ?_)
          by_cases h1 : (pack name).length = 1
          · obtain ⟨f, hf⟩ := List.length_eq_one_iff.1 h1
            have hff := hpf f (by rw [hf]; simp)
            refine ev_pos (by omega) (ev_pos (by omega) (ev_ret ?_))
            rw [if_pos ⟨h.1, h.2, h1⟩, hf]
            simp only [rd, Int.toNat_zero, List.getD_cons_zero, word, List.map_nil, List.singleton_append]
            rw [show f * 16 % 4294967296 = f * 16 by omega, or_u32 4 (by omega) (by omega) (by omega) (by omega) (by omega)]
          · exact ev_neg (by omega) (ev_ret (if_neg (fun h => h1 h.2.2)).symm)
        · refine ev_neg ?_ (ev_neg (by simp [k9]) (ev_ret (if_neg (fun hc => h ⟨hc.1, hc.2.1⟩)).symm))
          intro hc
          simp only [Bool.and_eq_true, beq_iff_eq, Bool.not_eq_true'] at hc
          exact h hc.2
      have e : cellsOf ⟨kind, name, n, hex, raw⟩ = [] := by unfold cellsOf; simp only; rw [if_neg k0, if_neg k7, if_neg k8, if_neg k9, if_neg (fun h => hb (hb2 h))]
      rw [e]
      exact ev_neg (by simp [k9]) (ev_neg (by simp [k0]) (ev_ret rfl))
  unfold impl_CellsOf.f
  refine ev_bind (ev_eq (impl_nameTag_eq kind)) ?_
  by_cases hp0 : tagOf kind > 0
  · refine ev_pos hp0 (rest _ ?_ ?_)
    · intro h
      simp only [Bool.and_eq_true, beq_iff_eq, Bool.not_eq_true'] at h
      exact ⟨hp0, h⟩
    · intro h
      simp [h.2.1, h.2.2.1, h.2.2.2]
  · exact ev_neg hp0 (rest false (by simp) (fun h => absurd h.1 hp0))

/-! ### impl_ItemOk -/
theorem impl_ItemOk_ev (it : It) (hn : -2147483648 ≤ it.n ∧ it.n ≤ 2147483647) (hs : it.name.length ≤ 1048576) : Ev (fun k => impl_ItemOk.f k it.kind (toB it.name) it.n it.hex it.raw) (decide (0 < (cellsOf it).length)) := by
  refine ev_bind (impl_CellsOf_ev it hn hs) (ev_ret ?_)
  rw [Bool.eq_iff_iff, decide_eq_true_eq, decide_eq_true_eq]; omega

/-! ### hexL -/
/-- The digits, none for nought. -/
def hexN (u : Nat) : List UInt8 := if u = 0 then [] else Hex.hexL u
theorem hexN_step (u : Nat) (h : u ≠ 0) : hexN u = hexN (u / 16) ++ [Hex.hexDig (u % 16)] := by
  unfold hexN
  rw [if_neg h]
  by_cases h1 : u < 16
  · rw [Hex.hexL_small h1, if_pos (by omega), Nat.mod_eq_of_lt h1]; rfl
  · rw [Hex.hexL_step h1, if_neg (by omega)]
theorem hex_cut (d : Nat) (h : d < 16) : (⟨#[48, 49, 50, 51, 52, 53, 54, 55, 56, 57, 97, 98, 99, 100, 101, 102]⟩ : ByteArray).extract d (d + 1) = toB [Hex.hexDig d] := by
  rw [extract_eq]
  apply congrArg toB
  match d, h with
  | 0, _ => rfl
  | 1, _ => rfl
  | 2, _ => rfl
  | 3, _ => rfl
  | 4, _ => rfl
  | 5, _ => rfl
  | 6, _ => rfl
  | 7, _ => rfl
  | 8, _ => rfl
  | 9, _ => rfl
  | 10, _ => rfl
  | 11, _ => rfl
  | 12, _ => rfl
  | 13, _ => rfl
  | 14, _ => rfl
  | 15, _ => rfl
  | n + 16, h => omega
theorem tmod16 (u : Nat) : Int.tmod (u : Int) 16 = ((u % 16 : Nat) : Int) := rfl
theorem tdiv16 (u : Nat) : Int.tdiv (u : Int) 16 = ((u / 16 : Nat) : Int) := rfl

/-! ### impl_HexText -/
theorem impl_HexText_eq (u : Nat) (h1 : u ≤ 4294967295) : impl_HexText.f (u : Int) = some (toB (Hex.hexL u)) := if_pos ⟨by omega, by omega⟩

/-! ### impl_DecText -/
theorem impl_DecText_eq (n : Int) (h0 : -9223372036854775808 ≤ n) (h1 : n ≤ 9223372036854775807) : impl_DecText.f n = some (toB (Lib.itoa n)) := if_pos ⟨h0, h1⟩

/-! ### readHex -/
def hexS (b : UInt8) : Option Nat := if 48 ≤ b.toNat ∧ b.toNat ≤ 57 then some (b.toNat - 48) else if 97 ≤ b.toNat ∧ b.toNat ≤ 102 then some (b.toNat - 87) else none
def sfold (acc : Nat) : List UInt8 → Option Nat
  | [] => some acc
  | b :: r => match hexS b with
    | none => none
    | some d => sfold (acc * 16 + d) r
theorem sfold_snoc (b : UInt8) (l : List UInt8) : ∀ acc, sfold acc (l ++ [b]) = (sfold acc l).bind fun x => (hexS b).map fun d => x * 16 + d := by
  induction l with
  | nil => intro acc; simp only [List.nil_append, sfold]; cases hexS b <;> rfl
  | cons c l ih =>
    intro acc
    simp only [List.cons_append, sfold]
    cases hexS c with
    | none => rfl
    | some d => exact ih _
theorem hexS_dig (d : Nat) (h : d < 16) : hexS (Hex.hexDig d) = some d := by
  match d, h with
  | 0, _ => rfl
  | 1, _ => rfl
  | 2, _ => rfl
  | 3, _ => rfl
  | 4, _ => rfl
  | 5, _ => rfl
  | 6, _ => rfl
  | 7, _ => rfl
  | 8, _ => rfl
  | 9, _ => rfl
  | 10, _ => rfl
  | 11, _ => rfl
  | 12, _ => rfl
  | 13, _ => rfl
  | 14, _ => rfl
  | 15, _ => rfl
  | n + 16, h => omega
theorem sfold_hexL (u : Nat) : sfold 0 (Hex.hexL u) = some u := by
  induction u using Nat.strongRecOn with
  | _ u ih =>
    by_cases h : u < 16
    · rw [Hex.hexL_small h]
      simp only [sfold, hexS_dig u h]
      congr 1; omega
    · rw [Hex.hexL_step h, sfold_snoc, ih (u / 16) (by omega), hexS_dig _ (Nat.mod_lt _ (by decide))]
      simp only [Option.bind_some, Option.map_some]
      congr 1; omega
theorem hexL_len (k : Nat) : ∀ u, u < 16 ^ (k + 1) → (Hex.hexL u).length ≤ k + 1 ∧ 1 ≤ (Hex.hexL u).length := by
  induction k with
  | zero => intro u hu; rw [Hex.hexL_small (by simpa using hu)]; simp
  | succ k ih =>
    intro u hu
    by_cases h : u < 16
    · rw [Hex.hexL_small h]; simp
    · rw [Hex.hexL_step h, List.length_append, List.length_singleton]
      rw [Nat.pow_succ] at hu
      have := ih (u / 16) (by omega)
      omega
def isHex (l : List UInt8) : Prop := ∃ u, u < 4294967296 ∧ Hex.hexL u = l
open Classical in
noncomputable def hexR (l : List UInt8) : Int × Bool := if h : isHex l then ((Classical.choose h : Nat), true) else (0, false)
theorem hexL_inj {a b : Nat} (h : Hex.hexL a = Hex.hexL b) : a = b := by
  have e := sfold_hexL a
  rw [h, sfold_hexL b] at e
  exact (Option.some.inj e).symm
theorem hexR_of {u : Nat} (h : u < 4294967296) : hexR (Hex.hexL u) = ((u : Int), true) := by
  have hx : isHex (Hex.hexL u) := ⟨u, h, rfl⟩
  unfold hexR
  rw [dif_pos hx, hexL_inj (Classical.choose_spec hx).2]
theorem hexR_no {l : List UInt8} (h : ¬ isHex l) : hexR l = (0, false) := dif_neg h
/-- What the reading comes to behind so many digits. -/
def redH (l : List UInt8) (acc : Nat) (r : List UInt8) : Int × Bool := match sfold acc r with
  | none => (0, false)
  | some n => if Hex.hexL (n % 4294967296) = l then (((n % 4294967296 : Nat) : Int), true) else (0, false)
theorem redH_all (l : List UInt8) : redH l 0 l = hexR l := by
  unfold redH
  by_cases hx : isHex l
  · obtain ⟨u, hu, rfl⟩ := hx
    rw [sfold_hexL, hexR_of hu]
    simp only [Nat.mod_eq_of_lt hu, if_true]
  · rw [hexR_no hx]
    split
    · rfl
    · rename_i n _
      exact if_neg (fun e => hx ⟨n % 4294967296, Nat.mod_lt _ (by decide), e⟩)
theorem redH_dig (l : List UInt8) (acc d : Nat) (b : UInt8) (r : List UInt8) (h : hexS b = some d) : redH l acc (b :: r) = redH l (acc * 16 + d) r := by
  unfold redH
  simp only [sfold, h]
theorem redH_bad (l : List UInt8) (acc : Nat) (b : UInt8) (r : List UInt8) (h : hexS b = none) : redH l acc (b :: r) = (0, false) := by
  unfold redH
  simp only [sfold, h]

/-! ### itemText -/
def numL (n : Int) (hex : Bool) : List UInt8 := if hex = true then 36 :: Hex.hexL (n % 4294967296).toNat else 35 :: Lib.itoa n
def markL (k : Int) : List UInt8 := if k = 1 then [126] else if k = 7 then [126] else if k = 2 then [58] else if k = 3 then [61] else if k = 8 then [61] else if k = 4 then [34] else if k = 5 then [94] else if k = 6 then [95] else if k = 9 then [38] else [37]
def itemText (it : It) : List UInt8 := if 0 < (cellsOf it).length then (if it.kind = 7 ∨ it.kind = 8 then markL it.kind ++ numL it.n it.hex else if it.kind = 9 then markL 9 ++ it.name ++ (35 :: Lib.itoa it.n) else if it.kind = 0 then markL 0 ++ Hex.hexL it.raw.toNat else markL it.kind ++ it.name) else []
theorem itoa_len32 {n : Int} (h : -2147483648 ≤ n ∧ n ≤ 2147483647) : (Lib.itoa n).length ≤ 21 := Lib.itoa_length_le n (by omega) (by omega)
theorem hexL_len32 {u : Nat} (h : u < 4294967296) : (Hex.hexL u).length ≤ 8 := (hexL_len 7 u h).1
theorem kind_of_ok (it : It) (h : 0 < (cellsOf it).length) : 0 ≤ it.kind ∧ it.kind ≤ 9 := by
  by_cases h1 : 0 ≤ it.kind ∧ it.kind ≤ 9
  · exact h1
  · exfalso
    have e : cellsOf it = [] := by
      unfold cellsOf
      rw [if_neg (by omega), if_neg (by omega), if_neg (by omega), if_neg (by omega), if_neg]
      rintro ⟨h2, _⟩
      unfold tagOf at h2
      rw [if_neg (by omega), if_neg (by omega), if_neg (by omega), if_neg (by omega), if_neg (by omega), if_neg (by omega)] at h2
      omega
    rw [e] at h
    simp at h
theorem markL_len (k : Int) : (markL k).length = 1 := by
  unfold markL
  repeat' split
  all_goals rfl

/-! ### impl_digits -/
theorem impl_digits_eq (n : Int) (hex : Bool) (h : -2147483648 ≤ n ∧ n ≤ 2147483647) : impl_digits.f n hex = some (toB (numL n hex)) := by
  unfold impl_digits.f numL
  have hm : n % 4294967296 = (((n % 4294967296).toNat : Nat) : Int) := by omega
  cases hex with
  | true =>
    have hl := hexL_len32 (u := (n % 4294967296).toNat) (by omega)
    rw [if_pos rfl, if_pos rfl, hm, impl_HexText_eq _ (by omega)]
    simp only [Option.bind_some]
    rw [if_pos (by rw [toB_size]; omega), show (⟨#[36]⟩ : ByteArray) = toB [36] from rfl, toB_append']
    rfl
  | false =>
    have hl := itoa_len32 h
    rw [if_neg (by simp), if_neg (by simp), w64 (by omega) (by omega), impl_DecText_eq n (by omega) (by omega)]
    simp only [Option.bind_some]
    rw [if_pos (by rw [toB_size]; omega), show (⟨#[35]⟩ : ByteArray) = toB [35] from rfl, toB_append']
    rfl

/-! ### impl_mark -/
theorem impl_mark_eq (x : Int) (h : 1 ≤ x ∧ x ≤ 6) : impl_mark.f x = some (toB (markL x)) := by
  have : x = 1 ∨ x = 2 ∨ x = 3 ∨ x = 4 ∨ x = 5 ∨ x = 6 := by omega
  rcases this with rfl | rfl | rfl | rfl | rfl | rfl <;> rfl

/-! ### impl_ItemText -/
theorem impl_ItemText_ev (it : It) (hn : -2147483648 ≤ it.n ∧ it.n ≤ 2147483647) (hr : 0 ≤ it.raw ∧ it.raw ≤ 4294967295) (hl : it.name.length ≤ 1048576) :
    Ev (fun k => impl_ItemText.f k it.kind (toB it.name) it.n it.hex it.raw) (toB (itemText it)) := by
  refine ev_bind (impl_ItemOk_ev it hn hl) ?_
  unfold itemText
  by_cases hok : 0 < (cellsOf it).length
  · rw [if_pos hok]
    have hk := kind_of_ok it hok
    have hnl : ∀ b, (numL it.n b).length ≤ 30 := by
      intro b
      unfold numL
      have := itoa_len32 hn
      have := hexL_len32 (u := (it.n % 4294967296).toNat) (by omega)
      split <;> (rw [List.length_cons]; omega)
    have hrr : it.raw = ((it.raw.toNat : Nat) : Int) := by omega
    have hrl := hexL_len32 (u := it.raw.toNat) (by omega)
    refine ev_pos (decide_eq_true hok) ?_
    refine ev_ite (fun h0 => ?_) (fun h0 => ?_)
    · rw [if_neg (show ¬(it.kind = 7 ∨ it.kind = 8) by omega), if_neg (show ¬ it.kind = 9 by omega), if_pos h0]
      refine ev_bind (ev_eq (by rw [hrr]; exact impl_HexText_eq it.raw.toNat (by omega))) (ev_pos (by rw [toB_size]; omega) (ev_ret ?_))
      rw [show (⟨#[37]⟩ : ByteArray) = toB [37] from rfl, toB_append']; rfl
    · refine ev_ite (fun h7 => ?_) (fun h7 => ?_)
      · rw [if_pos (.inl h7), h7]
        refine ev_bind (ev_eq (impl_digits_eq _ _ hn)) (ev_pos (by rw [toB_size]; have := hnl it.hex; omega) (ev_ret ?_))
        rw [show (⟨#[126]⟩ : ByteArray) = toB [126] from rfl, toB_append']; rfl
      · refine ev_ite (fun h8 => ?_) (fun h8 => ?_)
        · rw [if_pos (.inr h8), h8]
          refine ev_bind (ev_eq (impl_digits_eq _ _ hn)) (ev_pos (by rw [toB_size]; have := hnl it.hex; omega) (ev_ret ?_))
          rw [show (⟨#[61]⟩ : ByteArray) = toB [61] from rfl, toB_append']; rfl
        · rw [if_neg (show ¬(it.kind = 7 ∨ it.kind = 8) by omega)]
          refine ev_ite (fun h9 => ?_) (fun h9 => ?_)
          · rw [if_pos h9]
            refine ev_pos (by rw [toB_size]; omega) (ev_bind (ev_eq (impl_digits_eq _ _ hn)) (ev_pos ?_ (ev_ret ?_)))
            · rw [show (⟨#[38]⟩ : ByteArray) = toB [38] from rfl, toB_append', toB_size, toB_size, List.length_append, List.length_singleton]; have := hnl false; omega
            · rw [show (⟨#[38]⟩ : ByteArray) = toB [38] from rfl, toB_append', toB_append']; rfl
          · rw [if_neg h9, if_neg h0]
            have hml := markL_len it.kind
            refine ev_bind (ev_eq (impl_mark_eq _ (by omega))) (ev_pos (by rw [toB_size, toB_size]; omega) (ev_ret ?_))
            rw [toB_append']
  · rw [if_neg hok]
    exact ev_neg (by simpa using hok) (ev_ret rfl)

/-! ### laws_big -/
theorem laws_big_eq (l : List Int) : laws_big.f l = some (decide ((l.length : Int) > 1048576)) := rfl

/-! ### spec_l01New -/
theorem spec_l01New_l0 (l : List Int) (hl : l.length ≤ 1048576) (d : Nat) : ∀ (i : Nat) (h : Int), i + d = l.length → ∃ h', Ev (fun k => spec_l01New.l0 k l h (i : Int)) (l, 0, h') := by
  induction d with
  | zero =>
    intro i h hi
    refine ⟨h, Ev.step (fun k => by rw [spec_l01New.l0]) ?_⟩
    exact ev_neg (by omega) (ev_ret rfl)
  | succ d ih =>
    intro i h hi
    by_cases h4 : (i : Int) < 4000
    · obtain ⟨h', e⟩ := ih (i + 1) (Go.bits .and .i64 (wrap64 ((wrap64 ((wrap64 (h * 131)) + (wrap64 (rd l i)))) + 7)) 1073741823) (by omega)
      refine ⟨h', Ev.step (fun k => by rw [spec_l01New.l0]) ?_⟩
      refine ev_pos (by omega) (ev_pos h4 (ev_pos (by omega) ?_))
      rw [w64 (x := (i : Int) + 1) (by omega) (by omega), show ((i : Int) + 1) = ((i + 1 : Nat) : Int) by omega]
      exact e
    · refine ⟨h, Ev.step (fun k => by rw [spec_l01New.l0]) ?_⟩
      exact ev_pos (by omega) (ev_neg h4 (ev_ret rfl))
theorem spec_l01New_ev (l : List Int) (hl : l.length ≤ 1048576) : ∃ h, Ev (fun k => spec_l01New.f k l) (l, 0, h) := spec_l01New_l0 l hl l.length 0 _ (by omega)

/-! ### spec_l01Byte -/
theorem spec_l01Byte_eq {b : List Int} {i : Int} (h : Int) (hc : Cur b i) : ∃ r i' h', spec_l01Byte.f b i h = some (r, i', h') ∧ 0 ≤ r ∧ r ≤ 255 ∧ Cur b i' := by
  obtain ⟨c0, c1, c2⟩ := hc
  unfold spec_l01Byte.f
  by_cases hlt : i < (b.length : Int)
  · rw [if_pos hlt, if_pos c1]
    have := and_255 (wrap64 ((Go.bits .and .i64 (Go.bits .xor .i64 ((wrap64 ((wrap64 (h * 6364136223846793005)) + 1442695040888963407)) / 8589934592) ((wrap64 ((wrap64 (h * 6364136223846793005)) + 1442695040888963407)) / 35184372088832)) 255) + (wrap64 (rd b i))))
    exact ⟨_, _, _, rfl, this.1, this.2, c0, by rw [w64 (by omega) (by omega)]; omega, by rw [w64 (by omega) (by omega)]; omega⟩
  · rw [if_neg hlt]
    have := and_255 (Go.bits .xor .i64 ((wrap64 ((wrap64 (h * 6364136223846793005)) + 1442695040888963407)) / 8589934592) ((wrap64 ((wrap64 (h * 6364136223846793005)) + 1442695040888963407)) / 35184372088832))
    exact ⟨_, _, _, rfl, this.1, this.2, c0, c1, c2⟩

/-! ### spec_l01Below -/
theorem spec_l01Below_eq {b : List Int} {i : Int} (h n : Int) (hc : Cur b i) (hn : 0 < n) : ∃ r i' h', spec_l01Below.f b i h n = some (r, i', h') ∧ 0 ≤ r ∧ r < n ∧ Cur b i' := by
  unfold spec_l01Below.f
  rw [if_neg (by omega)]
  by_cases h2 : n ≤ 256
  · obtain ⟨r, i1, h1, e, r0, r1, c1⟩ := spec_l01Byte_eq h hc
    have := tmod_range r0 hn
    rw [if_pos h2, e]
    simp only [Option.bind_some]
    rw [if_neg (by omega)]
    exact ⟨_, _, _, rfl, this.1, this.2, c1⟩
  · obtain ⟨x, i1, h1, e1, x0, x1, c1⟩ := spec_l01Byte_eq h hc
    obtain ⟨y, i2, h2', e2, y0, y1, c2⟩ := spec_l01Byte_eq h1 c1
    obtain ⟨z, i3, h3, e3, z0, z1, c3⟩ := spec_l01Byte_eq h2' c2
    obtain ⟨v, i4, h4, e4, v0, v1, c4⟩ := spec_l01Byte_eq h3 c3
    rw [if_neg h2, e1]
    simp only [Option.bind_some]
    rw [e2]
    simp only [Option.bind_some]
    rw [e3]
    simp only [Option.bind_some]
    rw [e4]
    simp only [Option.bind_some]
    rw [if_neg (by omega)]
    have e5 : (wrap64 ((wrap64 ((wrap64 ((wrap64 (x * 16777216)) + (wrap64 (y * 65536)))) + (wrap64 (z * 256)))) + v)) = x * 16777216 + y * 65536 + z * 256 + v := by
      rw [w64 (x := x * 16777216) (by omega) (by omega), w64 (x := y * 65536) (by omega) (by omega), w64 (x := z * 256) (by omega) (by omega), w64 (x := x * 16777216 + y * 65536) (by omega) (by omega), w64 (x := x * 16777216 + y * 65536 + z * 256) (by omega) (by omega), w64 (by omega) (by omega)]
    rw [e5]
    have := tmod_range (x := x * 16777216 + y * 65536 + z * 256 + v) (by omega) hn
    exact ⟨_, _, _, rfl, this.1, this.2, c4⟩

/-! ### spec_l01Pick -/
theorem spec_l01Pick_eq {b : List Int} {i : Int} (h : Int) (l : List ByteArray) (hc : Cur b i) (hn : 0 < l.length) : ∃ r i' h', spec_l01Pick.f b i h l = some (r, i', h') ∧ r ∈ l ∧ Cur b i' := by
  obtain ⟨r, i', h', e, r0, r1, c⟩ := spec_l01Below_eq h (l.length : Int) hc (by omega)
  unfold spec_l01Pick.f
  rw [e]
  simp only [Option.bind_some]
  rw [if_pos r0, if_pos r1]
  exact ⟨_, _, _, rfl, rdOf_mem r0 r1, c⟩

/-! ### spec_l01Once -/
theorem spec_l01Once_eq {b : List Int} {i : Int} (h n : Int) (hc : Cur b i) (hn : 0 < n) : ∃ r i' h', spec_l01Once.f b i h n = some (r, i', h') ∧ Cur b i' := by
  obtain ⟨r, i', h', e, _, _, c⟩ := spec_l01Below_eq h n hc hn
  unfold spec_l01Once.f
  rw [e]
  exact ⟨_, _, _, rfl, c⟩

/-! ### spec_l01PickInt -/
theorem spec_l01PickInt_eq {b : List Int} {i : Int} (h : Int) (l : List Int) (hc : Cur b i) (hn : 0 < l.length) : ∃ r i' h', spec_l01PickInt.f b i h l = some (r, i', h') ∧ r ∈ l ∧ Cur b i' := by
  obtain ⟨r, i', h', e, r0, r1, c⟩ := spec_l01Below_eq h (l.length : Int) hc (by omega)
  unfold spec_l01PickInt.f
  rw [e]
  simp only [Option.bind_some]
  rw [if_pos r0, if_pos r1]
  exact ⟨_, _, _, rfl, rd_mem r0 r1, c⟩

/-! ### spec_l04Int -/
theorem spec_l04Int_eq {b : List Int} {i : Int} (h : Int) (hc : Cur b i) : ∃ r i' h', spec_l04Int.f b i h = some (r, i', h') ∧ (-2147483648 ≤ r ∧ r ≤ 2147483647) ∧ Cur b i' := by
  obtain ⟨o, i1, h1, e1, c1⟩ := spec_l01Once_eq h 2 hc (by omega)
  unfold spec_l04Int.f
  rw [e1]
  simp only [Option.bind_some]
  cases o with
  | true =>
    obtain ⟨r, i2, h2, e2, r0, r1, c2⟩ := spec_l01Below_eq h1 200 c1 (by omega)
    rw [if_pos rfl, e2]
    exact ⟨_, _, _, rfl, w32_range _, c2⟩
  | false =>
    obtain ⟨r, i2, h2, e2, m2, c2⟩ := spec_l01PickInt_eq h1 (([0, 67108863, 67108864, (-67108864), (-67108865), 2147483647, (-2147483648), 1000000, (-1)] : List Int)) c1 (by decide)
    rw [if_neg (by simp), e2]
    exact ⟨_, _, _, rfl, w32_range _, c2⟩

/-! ### spec_l01In -/
theorem spec_l01In_eq (a b c : Int) : spec_l01In.f a b c = some (decide (b ≤ a ∧ a ≤ c)) := by
  unfold spec_l01In.f
  by_cases h : b ≤ a
  · rw [if_pos h]; simp [h]
  · rw [if_neg h]; simp [h]

/-! ### spec_LetterAt -/
theorem spec_LetterAt_eq (k : Int) : spec_LetterAt.f k = some (if 0 ≤ k ∧ k ≤ 47 then bt lettersB k else 0) := by
  unfold spec_LetterAt.f spec_l02All.f
  simp only [spec_l01In_eq, Option.bind_some, decide_eq_true_eq]
  by_cases h : 0 ≤ k ∧ k ≤ 47
  · rw [if_pos h, if_pos h, if_pos h.1, if_pos (by show k < 48; omega)]; rfl
  · rw [if_neg h, if_neg h]

/-! ### spec_l02Name -/
theorem spec_l02Name_l0 {b : List Int} (n d : Nat) (hn : n ≤ 9) : ∀ (j : Nat) (acc : List UInt8) (i h : Int), j + d = n → acc.length = j → (∀ c ∈ acc, 1 ≤ lo c) → Cur b i →
    ∃ nm i' h', Ev (fun k => spec_l02Name.l0 k (acc.map (fun b => (b.toNat : Int))) (n : Int) (j : Int) b i h) (toB nm, i', h') ∧ nm.length = n ∧ (∀ c ∈ nm, 1 ≤ lo c) ∧ Cur b i' := by
  induction d with
  | zero =>
    intro j acc i h hj ha hl hc
    refine ⟨acc, i, h, Ev.step (fun k => by rw [spec_l02Name.l0]) ?_, by omega, hl, hc⟩
    exact ev_neg (by omega) (ev_ret (by rw [strOf_map]))
  | succ d ih =>
    intro j acc i h hj ha hl hc
    obtain ⟨r, i1, h1, e, r0, r1, c1⟩ := spec_l01Below_eq h 47 hc (by omega)
    obtain ⟨nm, i', h', ev, q1, q2, q3⟩ := ih (j + 1) (acc ++ [letter (1 + r)]) i1 h1 (by omega) (by simp; omega) (by
      intro c hc'
      rcases List.mem_append.1 hc' with hc' | hc'
      · exact hl c hc'
      · rw [List.mem_singleton] at hc'
        rw [hc', lo_letter (by omega) (by omega)]; omega) c1
    refine ⟨nm, i', h', Ev.step (fun k => by rw [spec_l02Name.l0]) ?_, q1, q2, q3⟩
    refine ev_pos (by omega) (ev_bind (ev_eq e) (ev_bind (ev_eq (spec_LetterAt_eq _)) (ev_pos (by simp; omega) ?_)))
    simp only
    rw [w64 (x := 1 + r) (by omega) (by omega), if_pos (by omega), bt_letter (by omega) (by omega), map_snoc, w64 (x := (j : Int) + 1) (by omega) (by omega), show ((j : Int) + 1) = ((j + 1 : Nat) : Int) by omega]
    exact ev
theorem spec_l02Name_ev {b : List Int} {i : Int} (h : Int) (hc : Cur b i) : ∃ nm i' h', Ev (fun k => spec_l02Name.f k b i h) (toB nm, i', h') ∧ okName nm = true ∧ nm.length ≤ 9 ∧ Cur b i' := by
  obtain ⟨r, i1, h1, e1, c1⟩ := spec_l01Once_eq h 2 hc (by omega)
  cases r with
  | true =>
    obtain ⟨s, i2, h2, e2, m2, c2⟩ := spec_l01Pick_eq h1 (([(⟨#[100, 117, 112]⟩ : ByteArray), (⟨#[111, 118, 101, 114]⟩ : ByteArray), (⟨#[115, 113, 117, 97, 114, 101]⟩ : ByteArray), (⟨#[97, 33]⟩ : ByteArray), (⟨#[50, 42]⟩ : ByteArray), (⟨#[103, 111]⟩ : ByteArray), (⟨#[45, 105, 102]⟩ : ByteArray), (⟨#[59]⟩ : ByteArray), (⟨#[63]⟩ : ByteArray), (⟨#[114, 114, 114, 114, 114, 114, 114]⟩ : ByteArray), (⟨#[114, 116, 111, 101, 97, 110, 105]⟩ : ByteArray), (⟨#[119, 119, 119, 119, 119, 119]⟩ : ByteArray), (⟨#[113, 113, 113, 113, 113]⟩ : ByteArray), (⟨#[120]⟩ : ByteArray)] : List ByteArray)) c1 (by decide)
    have hall : (([(⟨#[100, 117, 112]⟩ : ByteArray), (⟨#[111, 118, 101, 114]⟩ : ByteArray), (⟨#[115, 113, 117, 97, 114, 101]⟩ : ByteArray), (⟨#[97, 33]⟩ : ByteArray), (⟨#[50, 42]⟩ : ByteArray), (⟨#[103, 111]⟩ : ByteArray), (⟨#[45, 105, 102]⟩ : ByteArray), (⟨#[59]⟩ : ByteArray), (⟨#[63]⟩ : ByteArray), (⟨#[114, 114, 114, 114, 114, 114, 114]⟩ : ByteArray), (⟨#[114, 116, 111, 101, 97, 110, 105]⟩ : ByteArray), (⟨#[119, 119, 119, 119, 119, 119]⟩ : ByteArray), (⟨#[113, 113, 113, 113, 113]⟩ : ByteArray), (⟨#[120]⟩ : ByteArray)] : List ByteArray)).all (fun s => okName s.data.toList && decide (s.data.toList.length ≤ 9)) = true := by decide +kernel
    have hs := List.all_eq_true.1 hall s m2
    rw [Bool.and_eq_true, decide_eq_true_eq] at hs
    refine ⟨s.data.toList, i2, h2, ?_, hs.1, hs.2, c2⟩
    exact ev_bind (ev_eq e1) (ev_pos rfl (ev_bind (ev_eq e2) (ev_ret (by rw [toB_self]))))
  | false =>
    obtain ⟨r, i2, h2, e2, r0, r1, c2⟩ := spec_l01Below_eq h1 9 c1 (by omega)
    obtain ⟨nm, i3, h3, e3, q1, q2, q3⟩ := spec_l02Name_l0 (b := b) (1 + r).toNat (1 + r).toNat (by omega) 0 [] i2 h2 (by omega) rfl (by simp) c2
    refine ⟨nm, i3, h3, ?_, (okName_iff nm).2 ⟨by omega, by omega, q2⟩, by omega, q3⟩
    refine ev_bind (ev_eq e1) (ev_neg (by simp) (ev_bind (ev_eq e2) ?_))
    simp only
    rw [w64 (x := 1 + r) (by omega) (by omega), show (1 + r : Int) = (((1 + r).toNat : Nat) : Int) by omega]
    exact e3

/-! ### spec_l04Some -/
theorem spec_l04Some_ev {b : List Int} {i : Int} (h : Int) (hc : Cur b i) : ∃ (it : It) (i' h' : Int), Ev (fun k => spec_l04Some.f k b i h) (it.kind, toB it.name, it.n, it.hex, it.raw, i', h') ∧ (-2147483648 ≤ it.n ∧ it.n ≤ 2147483647) ∧ it.raw = 0 ∧ it.name.length ≤ 9 ∧ Cur b i' := by
  obtain ⟨q, i1, h1, e1, q0, q1, c1⟩ := spec_l01Below_eq h 8 hc (by omega)
  by_cases g0 : q = 0
  · obtain ⟨n, i2, h2, e2, hn, c2⟩ := spec_l04Int_eq h1 c1
    obtain ⟨o, i3, h3, e3, c3⟩ := spec_l01Once_eq h2 3 c2 (by omega)
    exact ⟨⟨7, [], n, o, 0⟩, i3, h3, ev_bind (ev_eq e1) (ev_pos g0 (ev_bind (ev_eq e2) (ev_bind (ev_eq e3) (ev_ret rfl)))), hn, rfl, by simp, c3⟩
  by_cases g1 : q = 1
  · obtain ⟨n, i2, h2, e2, hn, c2⟩ := spec_l04Int_eq h1 c1
    obtain ⟨o, i3, h3, e3, c3⟩ := spec_l01Once_eq h2 3 c2 (by omega)
    exact ⟨⟨8, [], n, o, 0⟩, i3, h3, ev_bind (ev_eq e1) (ev_neg g0 (ev_pos g1 (ev_bind (ev_eq e2) (ev_bind (ev_eq e3) (ev_ret rfl))))), hn, rfl, by simp, c3⟩
  by_cases g2 : q = 2
  · obtain ⟨s, i2, h2, e2, m2, c2⟩ := spec_l01Pick_eq h1 (([(⟨#[120]⟩ : ByteArray), (⟨#[97, 116]⟩ : ByteArray), (⟨#[113, 113, 113, 113]⟩ : ByteArray), (⟨#[116, 101, 110]⟩ : ByteArray)] : List ByteArray)) c1 (by decide)
    obtain ⟨n, i3, h3, e3, hn, c3⟩ := spec_l04Int_eq h2 c2
    have hall : (([(⟨#[120]⟩ : ByteArray), (⟨#[97, 116]⟩ : ByteArray), (⟨#[113, 113, 113, 113]⟩ : ByteArray), (⟨#[116, 101, 110]⟩ : ByteArray)] : List ByteArray)).all (fun s => decide (s.data.toList.length ≤ 9)) = true := by decide +kernel
    have hs := List.all_eq_true.1 hall s m2
    exact ⟨⟨9, s.data.toList, n, false, 0⟩, i3, h3, ev_bind (ev_eq e1) (ev_neg g0 (ev_neg g1 (ev_pos g2 (ev_bind (ev_eq e2) (ev_bind (ev_eq e3) (ev_ret (by simp only; rw [toB_self]))))))), hn, rfl, by simpa using hs, c3⟩
  · obtain ⟨t, i2, h2, e2, t0, t1, c2⟩ := spec_l01Below_eq h1 6 c1 (by omega)
    obtain ⟨nm, i3, h3, e3, o3, l3, c3⟩ := spec_l02Name_ev (b := b) h2 c2
    exact ⟨⟨wrap64 (1 + t), nm, 0, false, 0⟩, i3, h3, ev_bind (ev_eq e1) (ev_neg g0 (ev_neg g1 (ev_neg g2 (ev_bind (ev_eq e2) (ev_bind e3 (ev_ret rfl)))))), by simp, rfl, l3, c3⟩

/-! ### spec_l01Word -/
theorem spec_l01Word_eq {b : List Int} {i : Int} (h : Int) (hc : Cur b i) : ∃ r i' h', spec_l01Word.f b i h = some (r, i', h') ∧ (0 ≤ r ∧ r ≤ 4294967295) ∧ Cur b i' := by
  obtain ⟨q, i1, h1, e1, q0, q1, c1⟩ := spec_l01Below_eq h 4 hc (by omega)
  unfold spec_l01Word.f
  rw [e1]
  simp only [Option.bind_some]
  by_cases g0 : q = 0
  · obtain ⟨r, i2, h2, e2, m2, c2⟩ := spec_l01PickInt_eq h1 (([0, 1, 2, 31, 32, 255, 256, 2147483647, 2147483648, 4294967295, 4294967294] : List Int)) c1 (by decide)
    rw [if_pos g0, e2]
    exact ⟨_, _, _, rfl, by simp only; omega, c2⟩
  by_cases g1 : q = 1
  · obtain ⟨r, i2, h2, e2, r0, r1, c2⟩ := spec_l01Below_eq h1 300 c1 (by omega)
    rw [if_neg g0, if_pos g1, e2]
    exact ⟨_, _, _, rfl, by simp only; omega, c2⟩
  · obtain ⟨r, i2, h2, e2, r0, r1, c2⟩ := spec_l01Below_eq h1 65536 c1 (by omega)
    obtain ⟨s, i3, h3, e3, s0, s1, c3⟩ := spec_l01Below_eq h2 65536 c2 (by omega)
    rw [if_neg g0, if_neg g1, e2]
    simp only [Option.bind_some]
    rw [e3]
    exact ⟨_, _, _, rfl, by simp only; omega, c3⟩

/-! ### spec_l04Any -/
theorem spec_l04Any_ev {b : List Int} {i : Int} (h : Int) (hc : Cur b i) : ∃ (it : It) (i' h' : Int), Ev (fun k => spec_l04Any.f k b i h) (it.kind, toB it.name, it.n, it.hex, it.raw, i', h') ∧ (-2147483648 ≤ it.n ∧ it.n ≤ 2147483647) ∧ (0 ≤ it.raw ∧ it.raw ≤ 4294967295) ∧ it.name.length ≤ 12 ∧ Cur b i' := by
  obtain ⟨it, i1, h1, e1, p1, p2, p3, c1⟩ := spec_l04Some_ev (b := b) h hc
  obtain ⟨q, i2, h2, e2, q0, q1, c2⟩ := spec_l01Below_eq h1 14 c1 (by omega)
  by_cases g0 : q = 0
  · obtain ⟨r, i3, h3, e3, r0, c3⟩ := spec_l01Word_eq h2 c2
    exact ⟨⟨0, [], 0, false, r⟩, i3, h3, ev_bind e1 (ev_bind (ev_eq e2) (ev_pos g0 (ev_bind (ev_eq e3) (ev_ret rfl)))), by simp, r0, by simp, c3⟩
  by_cases g1 : q = 1
  · obtain ⟨r, i3, h3, e3, r0, r1, c3⟩ := spec_l01Below_eq h2 12 c2 (by omega)
    exact ⟨⟨wrap64 (r - 1), it.name, it.n, it.hex, it.raw⟩, i3, h3, ev_bind e1 (ev_bind (ev_eq e2) (ev_neg g0 (ev_pos g1 (ev_bind (ev_eq e3) (ev_ret rfl))))), p1, by simp only; omega, by simp only; omega, c3⟩
  by_cases g2 : q = 2
  · obtain ⟨s, i3, h3, e3, m3, c3⟩ := spec_l01Pick_eq h2 (([(⟨#[]⟩ : ByteArray), (⟨#[65]⟩ : ByteArray), (⟨#[113, 113, 113, 113, 113]⟩ : ByteArray), (⟨#[115, 113, 117, 97, 114, 101, 115, 113, 117, 97, 114, 101]⟩ : ByteArray)] : List ByteArray)) c2 (by decide)
    have hall : (([(⟨#[]⟩ : ByteArray), (⟨#[65]⟩ : ByteArray), (⟨#[113, 113, 113, 113, 113]⟩ : ByteArray), (⟨#[115, 113, 117, 97, 114, 101, 115, 113, 117, 97, 114, 101]⟩ : ByteArray)] : List ByteArray)).all (fun s => decide (s.data.toList.length ≤ 12)) = true := by decide +kernel
    have hs := List.all_eq_true.1 hall s m3
    exact ⟨⟨it.kind, s.data.toList, it.n, it.hex, it.raw⟩, i3, h3, ev_bind e1 (ev_bind (ev_eq e2) (ev_neg g0 (ev_neg g1 (ev_pos g2 (ev_bind (ev_eq e3) (ev_ret (by simp only; rw [toB_self]))))))), p1, by simp only; omega, by simpa using hs, c3⟩
  by_cases g3 : q = 3
  · obtain ⟨r, i3, h3, e3, r0, r1, c3⟩ := spec_l01Below_eq h2 3 c2 (by omega)
    exact ⟨⟨it.kind, it.name, it.n, it.hex, r % 4294967296⟩, i3, h3, ev_bind e1 (ev_bind (ev_eq e2) (ev_neg g0 (ev_neg g1 (ev_neg g2 (ev_pos g3 (ev_bind (ev_eq e3) (ev_ret rfl))))))), p1, by simp only; omega, by simp only; omega, c3⟩
  · exact ⟨it, i2, h2, ev_bind e1 (ev_bind (ev_eq e2) (ev_neg g0 (ev_neg g1 (ev_neg g2 (ev_neg g3 (ev_ret rfl)))))), p1, by omega, by omega, c2⟩

/-! ### spec_DrawItemText -/
theorem spec_DrawItemText_ev (l : List Int) (hl : l.length ≤ 1048576) : ∃ it : It, Ev (fun k => spec_DrawItemText.f k l) (it.kind, toB it.name, it.n, it.hex, it.raw) ∧ (-2147483648 ≤ it.n ∧ it.n ≤ 2147483647) ∧ (0 ≤ it.raw ∧ it.raw ≤ 4294967295) ∧ it.name.length ≤ 12 := by
  obtain ⟨h, e⟩ := spec_l01New_ev l hl
  obtain ⟨it, i1, h1, e1, p1, p2, p3, c1⟩ := spec_l04Any_ev (b := l) (i := 0) h ⟨hl, by omega, by omega⟩
  exact ⟨it, ev_bind e (ev_bind e1 (ev_ret rfl)), p1, p2, p3⟩

/-! ### impl_ReadHex -/
theorem hexV_dig (d : Nat) (h : d < 16) : ParseHex.hexV (Hex.hexDig d) = some d := by
  match d, h with
  | 0, _ => rfl
  | 1, _ => rfl
  | 2, _ => rfl
  | 3, _ => rfl
  | 4, _ => rfl
  | 5, _ => rfl
  | 6, _ => rfl
  | 7, _ => rfl
  | 8, _ => rfl
  | 9, _ => rfl
  | 10, _ => rfl
  | 11, _ => rfl
  | 12, _ => rfl
  | 13, _ => rfl
  | 14, _ => rfl
  | 15, _ => rfl
  | n + 16, h => omega
theorem phex_snoc (b : UInt8) (l : List UInt8) : ∀ acc, ParseHex.phex acc (l ++ [b]) = (ParseHex.phex acc l).bind fun x => ParseHex.phex x [b] := by
  induction l with
  | nil => intro acc; rfl
  | cons c l ih =>
    intro acc
    simp only [List.cons_append, ParseHex.phex]
    cases ParseHex.hexV c with
    | none => rfl
    | some d =>
      simp only []
      split
      · rfl
      · exact ih _
theorem phex_hexL (u : Nat) (hu : u < 4294967296) : ParseHex.phex 0 (Hex.hexL u) = some u := by
  induction u using Nat.strongRecOn with
  | _ u ih =>
    by_cases h : u < 16
    · rw [Hex.hexL_small h]
      simp only [ParseHex.phex, hexV_dig u h]
      rw [if_neg (by omega)]
      congr 1; omega
    · rw [Hex.hexL_step h, phex_snoc, ih (u / 16) (by omega) (by omega)]
      simp only [Option.bind_some, ParseHex.phex, hexV_dig _ (Nat.mod_lt u (by decide : 0 < 16))]
      rw [if_neg (by omega)]
      congr 1; omega
theorem impl_ReadHex_eq (l : List UInt8) (hl : l.length ≤ 281474976710656) : impl_ReadHex.f (toB l) = some (hexR l) := by
  unfold impl_ReadHex.f
  rw [toB_size, if_pos hl, toB_data]
  congr 1
  unfold ParseHex.v
  by_cases hx : isHex l
  · obtain ⟨u, hu, rfl⟩ := hx
    have hne : Hex.hexL u ≠ [] := by intro e; have := (hexL_len 7 u hu).2; rw [e] at this; simp at this
    rw [show ParseHex.rdH (Hex.hexL u) = some u by unfold ParseHex.rdH; rw [if_neg hne, phex_hexL u hu], hexR_of hu]
    exact if_pos rfl
  · rw [hexR_no hx]
    split
    · rename_i u h
      exact if_neg (fun e => hx ⟨u, ParseHex.rdH_le h, e⟩)
    · rfl

/-! ### reads -/
noncomputable def smallR (d : List UInt8) : Int := wrap32 (decR d).1
noncomputable def dec32 (d : List UInt8) : Int × Bool := if (decR d).2 = true ∧ -2147483648 ≤ (decR d).1 ∧ (decR d).1 ≤ 2147483647 then ((decR d).1, true) else (0, false)
/-- What stands ahead of the first '#', and what behind it. -/
def cutN (l : List UInt8) : List UInt8 := l.takeWhile (fun b => decide (b ≠ 35))
def cutD (l : List UInt8) : List UInt8 := l.drop ((cutN l).length + 1)
def nameK (c : UInt8) : Int := if c = 126 then 1 else if c = 58 then 2 else if c = 61 then 3 else if c = 34 then 4 else if c = 94 then 5 else if c = 95 then 6 else 0
def nameIt (c : UInt8) (r : List UInt8) : It := if nameK c = 0 then rawIt 0 else ⟨nameK c, r, 0, false, 0⟩
noncomputable def numIt (k : Int) (c : UInt8) (r : List UInt8) : It :=
  if r.take 1 = [35] then ⟨k, [], smallR (r.drop 1), false, 0⟩ else if r.take 1 = [36] then ⟨k, [], wrap32 (hexR (r.drop 1)).1, true, 0⟩ else nameIt c r
noncomputable def readOf (c : UInt8) (r : List UInt8) : It :=
  if c = 37 then rawIt (hexR r).1 else if c = 38 then ⟨9, cutN r, smallR (cutD r), false, 0⟩ else numIt (if c = 61 then 8 else 7) c r
noncomputable def readItem (l : List UInt8) : It := match l with
  | [] => rawIt 0
  | c :: r => readOf c r
noncomputable def readR (l : List UInt8) : It × Bool := if l ≠ [] ∧ itemText (readItem l) = l then (readItem l, true) else (rawIt 0, false)
noncomputable def tailR (k : Int) (s : List UInt8) : It × Bool :=
  if k = 0 then (rawIt (hexR s).1, (hexR s).2)
  else if k = 7 ∨ k = 8 then (if s.take 1 = [36] then (⟨k, [], wrap32 (hexR (s.drop 1)).1, true, 0⟩, (hexR (s.drop 1)).2) else (⟨k, [], (dec32 (s.drop 1)).1, false, 0⟩, (dec32 (s.drop 1)).2))
  else if k = 9 then (if 35 ∈ s then (⟨9, cutN s, (dec32 (cutD s)).1, false, 0⟩, (dec32 (cutD s)).2) else (rawIt 0, false))
  else (⟨k, s, 0, false, 0⟩, true)
/-- Does what stands behind the mark begin like a number. -/
def numB (r : List UInt8) : Bool := decide (r.take 1 = [35]) || decide (r.take 1 = [36])
def inR (it : It) : Prop := (-2147483648 ≤ it.n ∧ it.n ≤ 2147483647) ∧ 0 ≤ it.raw ∧ it.raw ≤ 4294967295
theorem z32 : -2147483648 ≤ (0 : Int) ∧ (0 : Int) ≤ 2147483647 := by decide
theorem zu32 : 0 ≤ (0 : Int) ∧ (0 : Int) ≤ 4294967295 := by decide
theorem lo35 : ¬ 1 ≤ lo 35 := by decide +kernel
theorem lo36 : ¬ 1 ≤ lo 36 := by decide +kernel
theorem w32r {n : Int} (h : -2147483648 ≤ n ∧ n ≤ 2147483647) : wrap32 n = n := w32 h.1 h.2
theorem w32m {n : Int} (h : -2147483648 ≤ n ∧ n ≤ 2147483647) : wrap32 (n % 4294967296) = n := by unfold wrap32; omega
theorem w32_range (n : Int) : -2147483648 ≤ wrap32 n ∧ wrap32 n ≤ 2147483647 := by unfold wrap32; omega
theorem hexR_range (l : List UInt8) : 0 ≤ (hexR l).1 ∧ (hexR l).1 ≤ 4294967295 := by
  by_cases h : isHex l
  · obtain ⟨u, hu, rfl⟩ := h
    rw [hexR_of hu]
    show 0 ≤ (u : Int) ∧ (u : Int) ≤ 4294967295
    omega
  · rw [hexR_no h]
    exact ⟨by decide, by decide⟩
theorem dec32_range (d : List UInt8) : -2147483648 ≤ (dec32 d).1 ∧ (dec32 d).1 ≤ 2147483647 := by
  unfold dec32
  split
  · rename_i h; exact h.2
  · exact ⟨by decide, by decide⟩
theorem hexL_ne (u : Nat) : Hex.hexL u ≠ [] := by
  by_cases h : u < 16
  · rw [Hex.hexL_small h]; simp
  · rw [Hex.hexL_step h]; simp
theorem hexL_num (u : Nat) : numB (Hex.hexL u) = false := by
  have e := sfold_hexL u
  obtain ⟨b, r, hb⟩ := List.exists_cons_of_ne_nil (hexL_ne u)
  rw [hb] at e ⊢
  unfold numB
  rw [Bool.or_eq_false_iff, decide_eq_false_iff_not, decide_eq_false_iff_not]
  constructor
  · intro h
    obtain rfl : b = 35 := by simpa using h
    simp [sfold, hexS] at e
  · intro h
    obtain rfl : b = 36 := by simpa using h
    simp [sfold, hexS] at e
theorem decR_itoa32 {n : Int} (h : -2147483648 ≤ n ∧ n ≤ 2147483647) : decR (Lib.itoa n) = (n, true) := decR_itoa (by omega) (by omega)
theorem smallR_itoa {n : Int} (h : -2147483648 ≤ n ∧ n ≤ 2147483647) : smallR (Lib.itoa n) = n := by unfold smallR; rw [decR_itoa32 h]; exact w32r h
theorem dec32_itoa {n : Int} (h : -2147483648 ≤ n ∧ n ≤ 2147483647) : dec32 (Lib.itoa n) = (n, true) := by unfold dec32; rw [decR_itoa32 h]; exact if_pos ⟨rfl, h⟩
theorem hexR_mod {n : Int} : hexR (Hex.hexL (n % 4294967296).toNat) = (n % 4294967296, true) := by
  rw [hexR_of (by omega)]
  congr 1; omega
theorem cutN_at {p q : List UInt8} (h : ∀ b ∈ p, b ≠ 35) : cutN (p ++ 35 :: q) = p := by
  unfold cutN
  rw [List.takeWhile_append_of_pos (by simpa using h), List.takeWhile_cons_of_neg (by simp), List.append_nil]
theorem cutD_at {p q : List UInt8} (h : ∀ b ∈ p, b ≠ 35) : cutD (p ++ 35 :: q) = q := by
  unfold cutD
  rw [cutN_at h, List.drop_append, List.drop_of_length_le (by omega), show p.length + 1 - p.length = 1 by omega]
  rfl
theorem pack_letters {l : List UInt8} (h : pack l ≠ []) : 1 ≤ l.length ∧ l.length ≤ 24 ∧ ∀ b ∈ l, b ≠ 35 ∧ b ≠ 36 := by
  unfold pack at h
  by_cases ho : okName l = true
  · obtain ⟨h1, h2, h3⟩ := (okName_iff l).1 ho
    exact ⟨h1, h2, fun b hb => ⟨fun e => lo35 (e ▸ h3 b hb), fun e => lo36 (e ▸ h3 b hb)⟩⟩
  · rw [if_neg ho] at h; exact absurd rfl h
theorem num_letters {l q : List UInt8} (h0 : 1 ≤ l.length) (h : ∀ b ∈ l, b ≠ 35 ∧ b ≠ 36) : numB (l ++ q) = false := by
  obtain ⟨b, r, rfl⟩ := List.exists_cons_of_ne_nil (List.ne_nil_of_length_pos h0)
  have hb := h b (by simp)
  unfold numB
  simp [hb.1, hb.2]
theorem numB_false {r : List UInt8} (h : numB r = false) : r.take 1 ≠ [35] ∧ r.take 1 ≠ [36] := by
  unfold numB at h
  simpa using h
/-- What an item that has cells reads like. -/
theorem text_shape (it : It) (hr : inR it) (hok : 0 < (cellsOf it).length) :
    ∃ m r, itemText it = m :: r ∧ markL it.kind = [m] ∧ r ≠ [] ∧ numB r = decide (it.kind = 7 ∨ it.kind = 8) ∧ tailR it.kind r = (it, true) ∧ readOf m r = it := by
  obtain ⟨hn, hw⟩ := hr
  have hk := kind_of_ok it hok
  obtain ⟨kind, name, n, hex, raw⟩ := it
  unfold itemText
  rw [if_pos hok]
  simp only at hk hn hw hok ⊢
  by_cases k0 : kind = 0
  · subst k0
    unfold cellsOf at hok
    rw [if_pos rfl] at hok
    by_cases hc : name = [] ∧ n = 0 ∧ hex = false
    · obtain ⟨rfl, rfl, rfl⟩ := hc
      refine ⟨37, Hex.hexL raw.toNat, rfl, rfl, hexL_ne _, by rw [hexL_num]; rfl, ?_, ?_⟩
      · show (rawIt (hexR (Hex.hexL raw.toNat)).1, (hexR (Hex.hexL raw.toNat)).2) = _
        rw [hexR_of (by omega)]
        show (rawIt (raw.toNat : Int), true) = _
        rw [show (raw.toNat : Int) = raw by omega]; rfl
      · show rawIt (hexR (Hex.hexL raw.toNat)).1 = _
        rw [hexR_of (by omega)]
        show rawIt (raw.toNat : Int) = _
        rw [show (raw.toNat : Int) = raw by omega]; rfl
    · rw [if_neg hc] at hok; simp at hok
  by_cases k7 : kind = 7 ∨ kind = 8
  · rw [if_pos k7]
    have hc : name = [] ∧ raw = 0 := by
      by_cases hc : name = [] ∧ raw = 0
      · exact hc
      · unfold cellsOf at hok
        simp only at hok
        rw [if_neg k0] at hok
        rcases k7 with rfl | rfl
        · rw [if_pos rfl, if_neg hc] at hok; simp at hok
        · rw [if_neg (by decide), if_pos rfl, if_neg hc] at hok; simp at hok
    obtain ⟨rfl, rfl⟩ := hc
    have hm : ∃ m, markL kind = [m] ∧ (m = 126 ∧ kind = 7 ∨ m = 61 ∧ kind = 8) := by
      rcases k7 with rfl | rfl
      · exact ⟨126, rfl, .inl ⟨rfl, rfl⟩⟩
      · exact ⟨61, rfl, .inr ⟨rfl, rfl⟩⟩
    obtain ⟨m, hm1, hm2⟩ := hm
    have hmk : (if m = 61 then (8 : Int) else 7) = kind := by
      rcases hm2 with ⟨rfl, rfl⟩ | ⟨rfl, rfl⟩ <;> rfl
    have hm37 : ¬ m = 37 := by rcases hm2 with ⟨rfl, _⟩ | ⟨rfl, _⟩ <;> decide
    have hm38 : ¬ m = 38 := by rcases hm2 with ⟨rfl, _⟩ | ⟨rfl, _⟩ <;> decide
    refine ⟨m, numL n hex, by rw [hm1]; rfl, hm1, ?_, ?_, ?_, ?_⟩
    · unfold numL; split <;> simp
    · rw [decide_eq_true k7]; unfold numL numB; split <;> simp
    · unfold tailR
      rw [if_neg k0, if_pos k7]
      cases hex with
      | true =>
        rw [if_pos (show (numL n true).take 1 = [36] from rfl), show (numL n true).drop 1 = Hex.hexL (n % 4294967296).toNat from rfl, hexR_mod, w32m hn]
      | false =>
        rw [if_neg (show ¬ (numL n false).take 1 = [36] from (show ¬ ([35] : List UInt8) = [36] by decide)), show (numL n false).drop 1 = Lib.itoa n from rfl, dec32_itoa hn]
    · unfold readOf numIt
      rw [if_neg hm37, if_neg hm38, hmk]
      cases hex with
      | true =>
        rw [if_neg (show ¬ (numL n true).take 1 = [35] from (show ¬ ([36] : List UInt8) = [35] by decide)), if_pos (show (numL n true).take 1 = [36] from rfl), show (numL n true).drop 1 = Hex.hexL (n % 4294967296).toNat from rfl, hexR_mod, w32m hn]
      | false =>
        rw [if_pos (show (numL n false).take 1 = [35] from rfl), show (numL n false).drop 1 = Lib.itoa n from rfl, smallR_itoa hn]
  rw [if_neg k7]
  by_cases k9 : kind = 9
  · subst k9
    unfold cellsOf at hok
    rw [if_neg (by simp), if_neg (by simp), if_neg (by simp), if_pos rfl] at hok
    by_cases hc : hex = false ∧ raw = 0 ∧ (pack name).length = 1
    · obtain ⟨rfl, rfl, hp⟩ := hc
      obtain ⟨h1, h2, h3⟩ := pack_letters (l := name) (by intro e; rw [e] at hp; simp at hp)
      have h35 : ∀ b ∈ name, b ≠ 35 := fun b hb => (h3 b hb).1
      refine ⟨38, name ++ 35 :: Lib.itoa n, by rw [if_pos rfl]; rfl, rfl, by simp, by rw [num_letters h1 h3]; rfl, ?_, ?_⟩
      · unfold tailR
        rw [if_neg (by decide), if_neg (by decide), if_pos rfl, if_pos (by simp), cutN_at h35, cutD_at h35, dec32_itoa hn]
      · unfold readOf
        rw [if_neg (by decide), if_pos rfl, cutN_at h35, cutD_at h35, smallR_itoa hn]
    · rw [if_neg hc] at hok; simp at hok
  · rw [if_neg k9, if_neg k0]
    unfold cellsOf at hok
    rw [if_neg k0, if_neg (show ¬ kind = 7 by omega), if_neg (show ¬ kind = 8 by omega), if_neg k9] at hok
    by_cases hc : 0 < tagOf kind ∧ n = 0 ∧ hex = false ∧ raw = 0
    · obtain ⟨ht, rfl, rfl, rfl⟩ := hc
      rw [if_pos ⟨ht, rfl, rfl, rfl⟩, word_length] at hok
      obtain ⟨h1, h2, h3⟩ := pack_letters (l := name) (by intro e; rw [e] at hok; simp at hok)
      have hnum : numB name = false := by have := num_letters (q := []) h1 h3; rwa [List.append_nil] at this
      obtain ⟨n1, n2⟩ := numB_false hnum
      have key : ∀ (m : UInt8), markL kind = [m] → nameK m = kind → m ≠ 37 → m ≠ 38 → ∃ m r, markL kind ++ name = m :: r ∧ markL kind = [m] ∧ r ≠ [] ∧ numB r = decide (kind = 7 ∨ kind = 8) ∧ tailR kind r = (⟨kind, name, 0, false, 0⟩, true) ∧ readOf m r = ⟨kind, name, 0, false, 0⟩ := by
        intro m hm hk1 m37 m38
        refine ⟨m, name, by rw [hm]; rfl, hm, List.ne_nil_of_length_pos h1, by rw [hnum, decide_eq_false k7], ?_, ?_⟩
        · unfold tailR
          rw [if_neg k0, if_neg k7, if_neg k9]
        · unfold readOf numIt nameIt
          rw [if_neg m37, if_neg m38, if_neg n1, if_neg n2, hk1, if_neg k0]
      have hcase : kind = 1 ∨ kind = 2 ∨ kind = 3 ∨ kind = 4 ∨ kind = 5 ∨ kind = 6 := by omega
      rcases hcase with rfl | rfl | rfl | rfl | rfl | rfl
      · exact key 126 rfl rfl (by decide) (by decide)
      · exact key 58 rfl rfl (by decide) (by decide)
      · exact key 61 rfl rfl (by decide) (by decide)
      · exact key 34 rfl rfl (by decide) (by decide)
      · exact key 94 rfl rfl (by decide) (by decide)
      · exact key 95 rfl rfl (by decide) (by decide)
    · rw [if_neg hc] at hok; simp at hok
theorem readR_text (it : It) (hr : inR it) (hok : 0 < (cellsOf it).length) : readR (itemText it) = (it, true) := by
  obtain ⟨m, r, e, _, _, _, _, h⟩ := text_shape it hr hok
  have hi : readItem (itemText it) = it := by rw [e]; exact h
  unfold readR
  rw [hi]
  exact if_pos ⟨by rw [e]; simp, rfl⟩
theorem ok_of_text {it : It} {l : List UInt8} (h : itemText it = l) (hl : l ≠ []) : 0 < (cellsOf it).length := by
  by_cases hok : 0 < (cellsOf it).length
  · exact hok
  · unfold itemText at h
    rw [if_neg hok] at h
    exact absurd h.symm hl
theorem readItem_inR (l : List UInt8) : inR (readItem l) := by
  have z : inR (rawIt 0) := ⟨z32, zu32⟩
  cases l with
  | nil => exact z
  | cons c r =>
    show inR (readOf c r)
    unfold readOf
    split
    · exact ⟨z32, hexR_range r⟩
    · split
      · exact ⟨w32_range _, zu32⟩
      · unfold numIt
        split
        · exact ⟨w32_range _, zu32⟩
        · split
          · exact ⟨w32_range _, zu32⟩
          · unfold nameIt
            split
            · exact z
            · exact ⟨z32, zu32⟩
theorem tailR_inR (k : Int) (s : List UInt8) : inR (tailR k s).1 := by
  have z : inR (rawIt 0) := ⟨z32, zu32⟩
  unfold tailR
  split
  · exact ⟨z32, hexR_range s⟩
  · split
    · split
      · exact ⟨w32_range _, zu32⟩
      · exact ⟨dec32_range _, zu32⟩
    · split
      · split
        · exact ⟨dec32_range _, zu32⟩
        · exact z
      · exact ⟨z32, zu32⟩
def hitR (k : Int) (l : List UInt8) : Prop := 2 ≤ l.length ∧ l.take 1 = markL k ∧ numB (l.drop 1) = decide (k = 7 ∨ k = 8) ∧ (tailR k (l.drop 1)).2 = true ∧ itemText (tailR k (l.drop 1)).1 = l
open Classical in
noncomputable def specF : Nat → Int → List UInt8 → It × Bool
  | 0, _, _ => (rawIt 0, false)
  | d + 1, k, l => if hitR k l then ((tailR k (l.drop 1)).1, true) else specF d (k + 1) l
theorem specF_eq (l : List UInt8) (d : Nat) : ∀ k : Int, k + d = 10 → ((readR l).2 = true → k ≤ (readR l).1.kind) → specF d k l = readR l := by
  have hfalse : ¬ (readR l).2 = true → readR l = (rawIt 0, false) := by
    intro h
    unfold readR at h ⊢
    split
    · rename_i hc; rw [if_pos hc] at h; exact absurd rfl h
    · rfl
  have htrue : (readR l).2 = true → itemText (readR l).1 = l ∧ inR (readR l).1 ∧ 0 < (cellsOf (readR l).1).length := by
    intro h
    unfold readR at h ⊢
    by_cases hc : l ≠ [] ∧ itemText (readItem l) = l
    · rw [if_pos hc]
      exact ⟨hc.2, readItem_inR l, ok_of_text hc.2 hc.1⟩
    · rw [if_neg hc] at h; exact absurd h (by simp)
  induction d with
  | zero =>
    intro k hk hle
    by_cases h : (readR l).2 = true
    · have := (kind_of_ok _ (htrue h).2.2).2
      have := hle h
      omega
    · rw [hfalse h]; rfl
  | succ d ih =>
    intro k hk hle
    simp only [specF]
    by_cases hh : hitR k l
    · rw [if_pos hh]
      obtain ⟨h1, _, _, _, h5⟩ := hh
      have hl : l ≠ [] := by intro e; rw [e] at h1; simp at h1
      have e := readR_text _ (tailR_inR k (l.drop 1)) (ok_of_text h5 hl)
      rw [h5] at e
      exact e.symm
    · rw [if_neg hh]
      refine ih (k + 1) (by omega) (fun h => ?_)
      obtain ⟨e, hr, hok⟩ := htrue h
      have := hle h
      by_cases hk2 : (readR l).1.kind = k
      · exfalso
        apply hh
        obtain ⟨m, r, e1, e2, e3, e4, e5, _⟩ := text_shape _ hr hok
        rw [hk2] at e2 e4 e5
        have el : l = m :: r := e.symm.trans e1
        have hd : l.drop 1 = r := by rw [el]; rfl
        unfold hitR
        rw [hd, e5]
        refine ⟨?_, by rw [el, e2]; rfl, e4, rfl, e⟩
        have := List.length_pos_iff.2 e3
        rw [el, List.length_cons]; omega
      · omega
theorem specF_all (l : List UInt8) : specF 10 0 l = readR l := by
  refine specF_eq l 10 0 (by decide) (fun h => ?_)
  unfold readR at h ⊢
  by_cases hc : l ≠ [] ∧ itemText (readItem l) = l
  · rw [if_pos hc]
    exact (kind_of_ok _ (ok_of_text hc.2 hc.1)).1
  · rw [if_neg hc] at h; exact absurd h (by simp)
theorem bt_toB {l : List UInt8} {i : Nat} (h : i < l.length) : bt (toB l) (i : Int) = ((l[i]).toNat : Int) := Tools.bt_at (s := toB l) (by rw [toB_size]; exact h)
theorem cut0 (l : List UInt8) (n : Nat) : (toB l).extract 0 n = toB (l.take n) := by rw [extract_eq, toB_data, List.drop_zero]
theorem cutF (l : List UInt8) (n : Nat) : (toB l).extract n (toB l).size = toB (l.drop n) := by rw [extract_eq, toB_data, toB_size, List.take_of_length_le (Nat.le_refl _)]
theorem toB_list (l : List UInt8) : (toB l).toList = l := by rw [ba_toList, toB_data]
def tup5 (it : It) : Int × ByteArray × Int × Bool × Int := (it.kind, toB it.name, it.n, it.hex, it.raw)
def tup6 (x : It × Bool) : Int × ByteArray × Int × Bool × Int × Bool := (x.1.kind, toB x.1.name, x.1.n, x.1.hex, x.1.raw, x.2)
theorem cutN_take (l : List UInt8) : l.take (cutN l).length = cutN l := by
  unfold cutN
  induction l with
  | nil => rfl
  | cons b l ih =>
    by_cases h : b = 35
    · rw [List.takeWhile_cons_of_neg (by simpa using h)]; rfl
    · rw [List.takeWhile_cons_of_pos (by simpa using h), List.length_cons, List.take_succ_cons, ih]
theorem cutN_le (l : List UInt8) : (cutN l).length ≤ l.length := by
  have := congrArg List.length (cutN_take l)
  rw [List.length_take] at this
  omega
theorem cutD_le (l : List UInt8) : (cutD l).length ≤ l.length := by unfold cutD; rw [List.length_drop]; omega
theorem cutN_none {l : List UInt8} (h : 35 ∉ l) : cutN l = l := by
  unfold cutN
  induction l with
  | nil => rfl
  | cons b l ih =>
    simp only [List.mem_cons, not_or] at h
    rw [List.takeWhile_cons_of_pos (by simpa using fun e : b = 35 => h.1 e.symm), ih h.2]
theorem cutD_none {l : List UInt8} (h : 35 ∉ l) : cutD l = [] := by unfold cutD; rw [cutN_none h, List.drop_of_length_le (by omega)]
theorem index35 (l : List UInt8) : Lib.indexByte l 35 = if 35 ∈ l then ((cutN l).length : Int) else -1 := by
  induction l with
  | nil => rfl
  | cons b l ih =>
    unfold Lib.indexByte
    by_cases h : b = 35
    · subst h
      rw [if_pos (by decide), if_pos (by simp)]
      unfold cutN
      rw [List.takeWhile_cons_of_neg (by simp)]; rfl
    · rw [if_neg (by simpa using h), ih]
      by_cases hm : 35 ∈ l
      · rw [if_pos hm, if_neg (by simp), if_pos (List.mem_cons_of_mem _ hm)]
        unfold cutN
        rw [List.takeWhile_cons_of_pos (by simpa using h), List.length_cons]; omega
      · rw [if_neg hm, if_pos (by decide), if_neg (by simp only [List.mem_cons, not_or]; exact ⟨fun e => h e.symm, hm⟩)]
theorem cutN_lt {l : List UInt8} (h : 35 ∈ l) : ∃ hh : (cutN l).length < l.length, l[(cutN l).length] = 35 := by
  induction l with
  | nil => simp at h
  | cons b l ih =>
    by_cases hb : b = 35
    · subst hb
      have e : cutN (35 :: l) = [] := by unfold cutN; rw [List.takeWhile_cons_of_neg (by simp)]
      rw [e]
      exact ⟨by simp, rfl⟩
    · have e : cutN (b :: l) = b :: cutN l := by unfold cutN; rw [List.takeWhile_cons_of_pos (by simpa using hb)]
      rw [e]
      obtain ⟨h1, h2⟩ := ih (by simpa [show ¬ 35 = b from fun e => hb e.symm] using h)
      exact ⟨by simpa using h1, by simpa using h2⟩
theorem cutN_no35 {l : List UInt8} {i : Nat} (h : i < (cutN l).length) (hi : i < l.length) : l[i] ≠ 35 := by
  induction l generalizing i with
  | nil => simp at hi
  | cons b l ih =>
    by_cases hb : b = 35
    · have e : cutN (b :: l) = [] := by unfold cutN; rw [List.takeWhile_cons_of_neg (by simpa using hb)]
      rw [e] at h; simp at h
    · have e : cutN (b :: l) = b :: cutN l := by unfold cutN; rw [List.takeWhile_cons_of_pos (by simpa using hb)]
      rw [e] at h
      cases i with
      | zero => exact hb
      | succ i => exact ih (by simpa using h) (by simpa using hi)

/-! ### strings_Cut -/
theorem strings_Cut_eq (l : List UInt8) (hl : l.length ≤ 281474976710656) : ∃ b, strings_Cut.f (toB l) ⟨#[35]⟩ = some (toB (cutN l), toB (cutD l), b) := by
  unfold strings_Cut.f stringslite_Cut.f
  rw [show stringslite_Index.f (toB l) ⟨#[35]⟩ = some (Lib.indexByte l 35) from rfl, index35]
  simp only [Option.bind_some]
  by_cases hm : 35 ∈ l
  · obtain ⟨h1, _⟩ := cutN_lt hm
    rw [if_pos hm, if_pos (by omega), if_pos (by omega), if_pos (by rw [toB_size]; omega), show (((⟨#[35]⟩ : ByteArray).size : Nat) : Int) = 1 from rfl, w64 (by omega) (by omega), if_pos (by omega), if_pos (by rw [toB_size]; omega)]
    refine ⟨true, ?_⟩
    simp only [Option.bind_some]
    rw [Int.toNat_natCast, cut0, show ((((cutN l).length : Nat) : Int) + 1).toNat = (cutN l).length + 1 by omega, cutF, cutN_take]
    rfl
  · rw [if_neg hm, if_neg (by decide), cutN_none hm, cutD_none hm]
    exact ⟨false, rfl⟩

/-! ### impl_ReadDec -/
theorem impl_ReadDec_eq (l : List UInt8) (hl : l.length ≤ 281474976710656) : impl_ReadDec.f (toB l) = some (decR l) := by
  unfold impl_ReadDec.f
  rw [toB_size, if_pos hl, toB_data]
  congr 1
  unfold impl_ReadDec.v
  by_cases hd : isDec l
  · obtain ⟨n, hb, en⟩ := hd
    rw [← en, atoiAll_itoa hb.1 hb.2, decR_itoa hb.1 hb.2]
    exact if_pos ⟨hb, rfl⟩
  · rw [decR_no hd]
    split
    · rename_i v _
      exact if_neg (fun h => hd ⟨v, h.1, h.2⟩)
    · rfl

/-! ### impl_small -/
theorem impl_small_eq (l : List UInt8) (hl : l.length ≤ 281474976710656) : ∃ b, impl_small.f (toB l) = some (smallR l, b) := by
  unfold impl_small.f smallR
  rw [impl_ReadDec_eq l hl]
  simp only [Option.bind_some]
  split
  · exact ⟨_, rfl⟩
  · exact ⟨_, rfl⟩

/-! ### strings_CutPrefix -/
theorem strings_CutPrefix_eq (l : List UInt8) (c : UInt8) : strings_CutPrefix.f (toB l) ⟨#[c]⟩ = some (toB (if l.take 1 = [c] then l.drop 1 else l), decide (l.take 1 = [c])) := by
  have e1 : (((⟨#[c]⟩ : ByteArray).size : Nat) : Int) = 1 := rfl
  unfold strings_CutPrefix.f stringslite_CutPrefix.f stringslite_HasPrefix.f
  rw [e1, toB_size]
  cases l with
  | nil => rfl
  | cons b r =>
    have h1 : ((b :: r).length : Int) ≥ 1 := by rw [List.length_cons]; omega
    have hs : (⟨#[c]⟩ : ByteArray).toList = [c] := toB_list [c]
    rw [if_pos h1, if_pos (by decide), if_pos h1, show ((1 : Int)).toNat = 1 from rfl, cut0, toB_list, hs]
    simp only [Option.bind_some]
    by_cases h : (b :: r).take 1 = [c]
    · rw [if_pos (beq_iff_eq.2 h), if_pos (by decide), if_pos h1, if_pos h, decide_eq_true h, show (b :: r).length = (toB (b :: r)).size from (toB_size _).symm, cutF]; rfl
    · rw [if_neg (by simpa using h), if_neg h, decide_eq_false h]; rfl

/-! ### impl_readItem -/
theorem nameK_loop (c : UInt8) (r : List UInt8) : Ev (fun k => impl_readItem.l0 k (toB [c]) (toB r) 1) (tup5 (nameIt c r)) := by
  have one : ∀ (x : Int) (m : UInt8) (R : Int × ByteArray × Int × Bool × Int), 1 ≤ x ∧ x ≤ 6 → markL x = [m] → (c = m → R = (x, toB r, 0, false, 0)) → (¬ c = m → Ev (fun k => impl_readItem.l0 k (toB [c]) (toB r) (x + 1)) R) → Ev (fun k => impl_readItem.l0 k (toB [c]) (toB r) x) R := by
    intro x m R hx hm h1 h2
    refine Ev.step (fun k => by rw [impl_readItem.l0]) (ev_pos hx.2 ?_)
    rw [impl_mark_eq x hx, hm]
    simp only [Option.bind_some]
    refine ev_ite (fun h => ev_ret ?_) (fun h => ?_)
    · rw [toB_list, toB_list] at h
      exact (h1 (by simpa using h.symm)).symm
    · rw [w64 (by omega) (by omega)]
      refine h2 (fun e => h ?_)
      rw [e]
  have last : ∀ R, (R = (0, (⟨#[]⟩ : ByteArray), 0, false, 0)) → Ev (fun k => impl_readItem.l0 k (toB [c]) (toB r) 7) R := by
    intro R hR
    refine Ev.step (fun k => by rw [impl_readItem.l0]) (ev_neg (by decide) (ev_ret hR.symm))
  unfold nameIt nameK
  refine one 1 126 _ (by decide) rfl (fun e => by subst e; rfl) (fun n1 => ?_)
  rw [if_neg n1]
  refine one 2 58 _ (by decide) rfl (fun e => by subst e; rfl) (fun n2 => ?_)
  rw [if_neg n2]
  refine one 3 61 _ (by decide) rfl (fun e => by subst e; rfl) (fun n3 => ?_)
  rw [if_neg n3]
  refine one 4 34 _ (by decide) rfl (fun e => by subst e; rfl) (fun n4 => ?_)
  rw [if_neg n4]
  refine one 5 94 _ (by decide) rfl (fun e => by subst e; rfl) (fun n5 => ?_)
  rw [if_neg n5]
  refine one 6 95 _ (by decide) rfl (fun e => by subst e; rfl) (fun n6 => ?_)
  rw [if_neg n6, if_pos rfl]
  exact last _ rfl
theorem numIt_ev (K : Int) (c : UInt8) (r : List UInt8) (hl : r.length ≤ 281474976710656) : Ev (fun k => impl_readItem.j0 k (toB [c]) (toB r) K (⟨#[]⟩ : ByteArray) 0 false 0) (tup5 (numIt K c r)) := by
  have hd : (r.drop 1).length ≤ 281474976710656 := by rw [List.length_drop]; omega
  refine Ev.step (fun k => by rw [impl_readItem.j0]) ?_
  rw [strings_CutPrefix_eq]
  simp only [Option.bind_some]
  unfold numIt
  refine ev_ite (fun h => ?_) (fun h => ?_)
  · have h1 := of_decide_eq_true h
    rw [if_pos h1, if_pos h1]
    obtain ⟨b, eb⟩ := impl_small_eq (r.drop 1) hd
    rw [eb]
    exact ev_ret rfl
  · have h1 : ¬ r.take 1 = [35] := by simpa using h
    rw [if_neg h1, strings_CutPrefix_eq]
    simp only [Option.bind_some]
    refine ev_ite (fun h => ?_) (fun h => ?_)
    · have h2 := of_decide_eq_true h
      rw [if_pos h2, if_pos h2, impl_ReadHex_eq _ hd]
      exact ev_ret rfl
    · have h2 : ¬ r.take 1 = [36] := by simpa using h
      rw [if_neg h2]
      exact nameK_loop c r
theorem impl_readItem_ev (c : UInt8) (r : List UInt8) (hl : r.length ≤ 281474976710656) : Ev (fun k => impl_readItem.f k (toB (c :: r))) (tup5 (readOf c r)) := by
  have h1 : ((toB (c :: r)).size : Int) ≥ 1 := by rw [toB_size, List.length_cons]; omega
  have e0 : (toB (c :: r)).extract 0 1 = toB [c] := cut0 _ 1
  have eF : (toB (c :: r)).extract 1 (toB (c :: r)).size = toB r := cutF _ 1
  refine ev_pos (by decide) (ev_pos h1 ?_)
  rw [e0, eF, toB_list]
  unfold readOf
  have c37 : ([c] = ([37] : List UInt8)) ↔ c = 37 := by simp
  have c38 : ([c] = ([38] : List UInt8)) ↔ c = 38 := by simp
  have c61 : ([c] = ([61] : List UInt8)) ↔ c = 61 := by simp
  refine ev_ite (fun h => ?_) (fun h => ?_)
  · rw [if_pos (c37.1 h), impl_ReadHex_eq r hl]
    exact ev_ret rfl
  rw [if_neg (fun e => h (c37.2 e))]
  refine ev_ite (fun h => ?_) (fun h => ?_)
  · rw [if_pos (c38.1 h)]
    obtain ⟨b, eb⟩ := strings_Cut_eq r hl
    have := cutD_le r
    obtain ⟨b2, eb2⟩ := impl_small_eq (cutD r) (by omega)
    rw [eb]
    simp only [Option.bind_some]
    rw [eb2]
    exact ev_ret rfl
  rw [if_neg (fun e => h (c38.2 e))]
  refine ev_ite (fun h => ?_) (fun h => ?_)
  · rw [if_pos (c61.1 h)]
    exact numIt_ev 8 c r hl
  · rw [if_neg (fun e => h (c61.2 e))]
    exact numIt_ev 7 c r hl
theorem readItem_name (l : List UInt8) : (readItem l).name.length ≤ l.length := by
  have h0 : (rawIt 0).name.length ≤ l.length := Nat.zero_le _
  cases l with
  | nil => exact h0
  | cons c r =>
    show (readOf c r).name.length ≤ r.length + 1
    have := cutN_le r
    unfold readOf
    split
    · exact Nat.zero_le _
    · split
      · show (cutN r).length ≤ _; omega
      · unfold numIt
        split
        · exact Nat.zero_le _
        · split
          · exact Nat.zero_le _
          · unfold nameIt
            split
            · exact Nat.zero_le _
            · show r.length ≤ _; omega

/-! ### impl_ReadItem -/
theorem impl_ReadItem_ev (l : List UInt8) (hl : l.length ≤ 1048576) : Ev (fun k => impl_ReadItem.f k (toB l)) (tup6 (readR l)) := by
  unfold readR
  refine ev_ite (fun h => ev_ret ?_) (fun h => ?_)
  · rw [toB_list] at h
    rw [if_neg (fun e => e.1 h)]; rfl
  · rw [toB_list] at h
    obtain ⟨c, r, rfl⟩ := List.exists_cons_of_ne_nil h
    have hr := readItem_inR (c :: r)
    have hn := readItem_name (c :: r)
    refine ev_bind (impl_readItem_ev c r (by rw [List.length_cons] at hl; omega)) (ev_bind (impl_ItemText_ev (readItem (c :: r)) hr.1 hr.2 (by omega)) ?_)
    refine ev_ite (fun h2 => ev_ret ?_) (fun h2 => ev_ret ?_)
    · rw [toB_list, toB_list] at h2
      rw [if_pos ⟨h, h2⟩]; rfl
    · rw [toB_list, toB_list] at h2
      rw [if_neg (fun e => h2 e.2)]; rfl

/-! ### spec_l04Num -/
theorem spec_l04Num_eq (n : Int) (hex : Bool) (s l : Int) (hn : -2147483648 ≤ n ∧ n ≤ 2147483647) (hs : 0 ≤ s ∧ s ≤ 15) (hl : 0 ≤ l ∧ l ≤ 15) : spec_l04Num.f n hex s l = some (numCells n hex s l) := by
  unfold spec_l04Num.f numCells bitOf
  cases hex
  · simp only [Bool.false_eq_true, if_false]
    by_cases h : -67108864 ≤ n ∧ n ≤ 67108863
    · rw [if_pos h.1, if_pos h.2, if_pos h]
      congr 2; omega
    · rw [if_neg h]
      have e : (0 + l) % 4294967296 = 0 + l := by omega
      rw [e]
      by_cases h1 : n ≥ -67108864
      · rw [if_pos h1, if_neg (by omega)]
      · rw [if_neg h1]
  · simp only [if_true]
    by_cases h : -67108864 ≤ n ∧ n ≤ 67108863
    · rw [if_pos h.1, if_pos h.2, if_pos h]
      congr 2; omega
    · rw [if_neg h]
      have e : (16 + l) % 4294967296 = 16 + l := by omega
      rw [e]
      by_cases h1 : n ≥ -67108864
      · rw [if_pos h1, if_neg (by omega)]
      · rw [if_neg h1]

/-! ### spec_LetterOf -/
theorem spec_LetterOf_all : ∀ b : UInt8, spec_LetterOf.f 49 (b.toNat : Int) = some (lo b) := all_bytes (by decide +kernel)
theorem spec_LetterOf_ev (b : UInt8) : Ev (fun k => spec_LetterOf.f k (b.toNat : Int)) (lo b) := Ev.of (spec_LetterOf.mono _) (spec_LetterOf_all b)

/-! ### spec_NameOk -/
theorem spec_NameOk_l0 (s : ByteArray) (hs : s.size ≤ 24) (d : Nat) : ∀ i : Nat, i + d = s.size → Ev (fun k => spec_NameOk.l0 k s (i : Int)) ((s.data.toList.drop i).all (fun b => decide (1 ≤ lo b))) := by
  induction d with
  | zero =>
    intro i hi
    refine Ev.step (fun k => by rw [spec_NameOk.l0]) ?_
    refine ev_neg (by omega) (ev_ret ?_)
    rw [List.drop_of_length_le (by rw [← size_eq]; omega)]; rfl
  | succ d ih =>
    intro i hi
    have hlt : i < s.size := by omega
    refine Ev.step (fun k => by rw [spec_NameOk.l0]) ?_
    refine ev_pos (by omega) (ev_pos (by omega) (ev_bind (by rw [bt_at hlt]; exact spec_LetterOf_ev _) ?_))
    rw [drop_cons hlt, List.all_cons]
    by_cases h : 1 ≤ lo s[i]
    · refine ev_neg (by omega) ?_
      rw [w64 (by omega) (by omega), show ((i : Int) + 1) = ((i + 1 : Nat) : Int) by omega, decide_eq_true h, Bool.true_and]
      exact ih (i + 1) (by omega)
    · refine ev_pos (by omega) (ev_ret ?_)
      rw [decide_eq_false h, Bool.false_and]
theorem spec_NameOk_ev (s : ByteArray) : Ev (fun k => spec_NameOk.f k s) (okName s.data.toList) := by
  refine ev_bind (ev_eq (spec_l01In_eq _ _ _)) ?_
  unfold okName
  rw [← size_eq]
  by_cases h : 1 ≤ (s.size : Int) ∧ (s.size : Int) ≤ 24
  · refine ev_pos (decide_eq_true h) ?_
    rw [decide_eq_true (show 1 ≤ s.size by omega), decide_eq_true (show s.size ≤ 24 by omega), Bool.true_and, Bool.true_and]
    exact spec_NameOk_l0 s (by omega) s.size 0 (by omega)
  · refine ev_neg (by simp only [decide_eq_true_eq]; exact h) (ev_ret ?_)
    by_cases h1 : 1 ≤ s.size
    · rw [decide_eq_false (show ¬ s.size ≤ 24 by omega)]; simp
    · rw [decide_eq_false h1]; simp

/-! ### spec_WidthOf -/
theorem spec_WidthOf_eq (k : Int) : spec_WidthOf.f k = some (widthOf k) := by
  unfold spec_WidthOf.f widthOf
  simp only [spec_l01In_eq, Option.bind_some, decide_eq_true_eq]
  by_cases h1 : 0 ≤ k ∧ k ≤ 7
  · rw [if_pos h1, if_pos h1]
  rw [if_neg h1, if_neg h1]
  by_cases h2 : 8 ≤ k ∧ k ≤ 15
  · rw [if_pos h2, if_pos h2]
  rw [if_neg h2, if_neg h2]
  by_cases h3 : 16 ≤ k ∧ k ≤ 47
  · rw [if_pos h3, if_pos h3]
  rw [if_neg h3, if_neg h3]

/-! ### spec_BitsOf -/
theorem spec_BitsOf_eq (k : Int) : spec_BitsOf.f k = some (bitsOf k) := by
  unfold spec_BitsOf.f
  simp only [spec_WidthOf_eq, Option.bind_some]
  rcases width_cases k with ⟨e1, e2, h⟩ | ⟨e1, e2, h⟩ | ⟨e1, e2, h⟩ | ⟨e1, e2, h⟩ <;> rw [e1, e2] <;> simp
  · omega
  · rw [w64 (by omega) (by omega)]; omega
  · rw [w64 (by omega) (by omega)]; omega

/-! ### spec_l03One -/
theorem spec_l03One_l0 (s : ByteArray) (hs : s.size ≤ 1000000) (hb : ∀ b ∈ s.data.toList, 1 ≤ lo b) (d : Nat) : ∀ (i : Nat) (f left : Int), i + d = s.size → 0 ≤ left → left ≤ 28 → 0 ≤ f → f + 2 ^ left.toNat ≤ 268435456 →
    Ev (fun k => spec_l03One.l0 k s f left (i : Int)) (f + (one (s.data.toList.drop i) left).1, (i : Int) + ((one (s.data.toList.drop i) left).2 : Int)) := by
  induction d with
  | zero =>
    intro i f left hi h0 h1 h2 h3
    have := two_pow_pos left.toNat
    refine Ev.step (fun k => by rw [spec_l03One.l0]) ?_
    refine ev_neg (by omega) (ev_ret ?_)
    rw [List.drop_of_length_le (by rw [← size_eq]; omega), one]
    simp; omega
  | succ d ih =>
    intro i f left hi h0 h1 h2 h3
    have hlt : i < s.size := by omega
    have hp := two_pow_pos left.toNat
    have hl1 := hb s[i] (by rw [getB hlt]; exact List.getElem_mem _)
    have hlr := lo_range s[i]
    have w := width_in (k := lo s[i]) (by omega) (by omega)
    rw [drop_cons hlt, one]
    refine Ev.step (fun k => by rw [spec_l03One.l0]) ?_
    refine ev_pos (by omega) (ev_pos (by omega) (ev_bind (by rw [bt_at hlt]; exact spec_LetterOf_ev _) (ev_bind (ev_eq (spec_WidthOf_eq _)) ?_)))
    by_cases hw : widthOf (lo s[i]) > left
    · rw [if_pos hw]
      refine ev_pos hw (ev_ret ?_)
      simp; omega
    · rw [if_neg hw]
      have e : left.toNat = (widthOf (lo s[i])).toNat + (left - widthOf (lo s[i])).toNat := by omega
      have hq := two_pow_pos (left - widthOf (lo s[i])).toNat
      have hm : (bitsOf (lo s[i]) + 1) * 2 ^ (left - widthOf (lo s[i])).toNat ≤ 2 ^ left.toNat := by
        rw [e, Int.pow_add]; exact Int.mul_le_mul_of_nonneg_right (by omega) (by omega)
      rw [Int.add_mul] at hm
      have hn := Int.mul_nonneg w.2.2.1 (show 0 ≤ (2 : Int) ^ (left - widthOf (lo s[i])).toNat by omega)
      have hb7 := two_pow_le (a := (widthOf (lo s[i])).toNat) (b := 7) (by omega)
      refine ev_neg hw (ev_bind (ev_eq (spec_BitsOf_eq _)) (ev_pos (by rw [w64 (by omega) (by omega), wu64 (by omega) (by omega)]; omega) ?_))
      rw [w64 (x := bitsOf (lo s[i])) (by omega) (by omega), w64 (x := left - widthOf (lo s[i])) (by omega) (by omega), wu64 (by omega) (by omega), shl_i64 w.2.2.1 (by omega) (by omega), w64 (by omega) (by omega), w64 (by omega) (by omega), show ((i : Int) + 1) = ((i + 1 : Nat) : Int) by omega]
      refine ev_to (ih (i + 1) _ _ (by omega) (by omega) (by omega) (by omega) (by omega)) ?_
      simp only [Prod.mk.injEq]
      constructor <;> omega
theorem spec_l03One_ev (l : List UInt8) (hl : l.length ≤ 1000000) (hb : ∀ b ∈ l, 1 ≤ lo b) : Ev (fun k => spec_l03One.f k (toB l)) ((one l 28).1, ((one l 28).2 : Int)) := by
  refine ev_to (spec_l03One_l0 (toB l) (by rw [toB_size]; exact hl) hb l.length 0 0 28 (by rw [toB_size]; omega) (by omega) (by omega) (by omega) (by decide)) ?_
  rw [toB_data]; simp

/-! ### spec_Pack -/
theorem spec_Pack_l0 (n : Nat) : ∀ (l : List UInt8) (out : List Int), l.length ≤ n → n ≤ 1000000 → (∀ b ∈ l, 1 ≤ lo b) → out.length + l.length ≤ 1000000 → Ev (fun k => spec_Pack.l0 k (toB l) out) (out ++ packF l.length l) := by
  induction n with
  | zero =>
    intro l out hl hn hb ho
    have : l = [] := List.eq_nil_of_length_eq_zero (by omega)
    subst this
    refine Ev.step (fun k => by rw [spec_Pack.l0]) ?_
    exact ev_pos (by rw [ba_toList]; rfl) (ev_ret (by simp [packF]))
  | succ n ih =>
    intro l out hl hn hb ho
    by_cases h : l = []
    · subst h
      refine Ev.step (fun k => by rw [spec_Pack.l0]) ?_
      exact ev_pos (by rw [ba_toList]; rfl) (ev_ret (by simp [packF]))
    · have h1 := one_pos h (left := 28) (by omega)
      have h2 := one_range l 28 (by omega) (by omega) hb
      refine Ev.step (fun k => by rw [spec_Pack.l0]) ?_
      refine ev_neg (by rw [ba_toList, toB_data]; exact h) (ev_bind (spec_l03One_ev l (by omega) hb) (ev_pos (by omega) (ev_pos (by simp only; omega) (ev_pos (by rw [toB_size]; simp only; omega) ?_))))
      rw [packF_step h, extract_eq, toB_data, toB_size, List.take_of_length_le (by omega)]
      simp only [Int.toNat_natCast]
      refine ev_to (ih (l.drop (one l 28).2) (out ++ [(one l 28).1]) (by rw [List.length_drop]; omega) (by omega) (fun b hb' => hb b (List.mem_of_mem_drop hb')) (by simp only [List.length_append, List.length_drop, List.length_cons, List.length_nil]; omega)) ?_
      simp
theorem spec_Pack_ev (l : List UInt8) : Ev (fun k => spec_Pack.f k (toB l)) (pack l) := by
  refine ev_some (ev_bind (spec_NameOk_ev _) ?_)
  rw [toB_data]
  unfold pack
  by_cases h : okName l = true
  · rw [if_pos h]
    obtain ⟨h1, h2, h3⟩ := (okName_iff l).1 h
    exact ev_pos h (spec_Pack_l0 l.length l [] (by omega) (by omega) h3 (by simp; omega))
  · rw [if_neg h]
    exact ev_neg h (ev_ret rfl)

/-! ### spec_l04Word -/
theorem spec_l04Word_l0 (t : Int) (ht : 0 ≤ t ∧ t ≤ 15) (fs : List Int) (hf : ∀ f ∈ fs, 0 ≤ f ∧ f < 268435456) (hl : fs.length ≤ 24) (d : Nat) : ∀ i : Nat, i + d = fs.length →
    Ev (fun k => spec_l04Word.l0 k t ((word t fs).take i ++ fs.drop i) (i : Int)) (word t fs) := by
  induction d with
  | zero =>
    intro i hi
    refine Ev.step (fun k => by rw [spec_l04Word.l0]) ?_
    have hw := word_length t fs
    refine ev_neg (by rw [List.length_append, List.length_take, List.length_drop]; omega) (ev_ret ?_)
    rw [List.take_of_length_le (by omega), List.drop_of_length_le (by omega), List.append_nil]
  | succ d ih =>
    intro i hi
    have hw := word_length t fs
    have hlt : i < fs.length := by omega
    have hfi := hf fs[i] (List.getElem_mem _)
    have hti : i = ((word t fs).take i).length := by rw [List.length_take]; omega
    have hg := word_getElem t fs i hlt
    refine Ev.step (fun k => by rw [spec_l04Word.l0]) ?_
    refine ev_pos (by rw [List.length_append, List.length_take, List.length_drop]; omega) (ev_pos (by omega) (ev_some ?_))
    rw [List.drop_eq_getElem_cons hlt, rd_mid hti]
    simp only [Int.toNat_natCast]
    rw [set_mid hti, w64 (by omega) (by omega), show ((i : Int) + 1) = ((i + 1 : Nat) : Int) by omega]
    have next := ih (i + 1) (by omega)
    rw [List.take_succ_eq_append_getElem (by rw [hw]; exact hlt), hg, List.append_assoc, List.singleton_append] at next
    by_cases h0 : i = 0
    · refine ev_pos (by omega) ?_
      rw [rd_mid hti, set_mid hti]
      rw [if_pos h0] at next
      rw [show (fs[i] * 16 % 4294967296 + t) % 4294967296 = fs[i] * 16 + t by omega]
      exact next
    · refine ev_neg (by omega) ?_
      rw [if_neg h0] at next
      rw [show fs[i] * 16 % 4294967296 = fs[i] * 16 by omega]
      exact next
theorem spec_l04Word_ev (t : Int) (ht : 0 ≤ t ∧ t ≤ 15) (l : List UInt8) : Ev (fun k => spec_l04Word.f k t (toB l)) (word t (pack l)) := by
  refine ev_bind (spec_Pack_ev l) ?_
  have := spec_l04Word_l0 t ht (pack l) (fun f hf => (pack_fields f hf).2) (pack_length l) (pack l).length 0 (Nat.zero_add _)
  simpa using this

/-! ### spec_l04Tag -/
theorem spec_l04Tag_eq (k : Int) : spec_l04Tag.f k = some (tagOf k) := by
  unfold spec_l04Tag.f tagOf
  repeat' split
  all_goals rfl

/-! ### spec_CellsOf -/
theorem spec_CellsOf_j0 (it : It) (hn : -2147483648 ≤ it.n ∧ it.n ≤ 2147483647) (b : Bool) (hb : b = true ↔ (it.n = 0 ∧ it.hex = false ∧ it.raw = 0)) : Ev (fun k => spec_CellsOf.j0 k b it.kind (toB it.name) it.n it.hex it.raw) (cellsOf it) := by
  obtain ⟨kind, name, n, hex, raw⟩ := it
  simp only at hn hb ⊢
  refine Ev.step (fun k => by rw [spec_CellsOf.j0]) ?_
  by_cases k0 : kind = 0
  · refine ev_pos k0 ?_
    have e : cellsOf ⟨kind, name, n, hex, raw⟩ = if name = [] ∧ n = 0 ∧ hex = false then [raw] else [] := by unfold cellsOf; simp only; rw [if_pos k0]
    rw [e]
    by_cases h1 : name = []
    · refine ev_pos ((toB_nil_iff name).2 h1) ?_
      by_cases h2 : n = 0
      · refine ev_pos h2 ?_
        cases hex with
        | true => exact ev_pos rfl (ev_ret (if_neg (fun h => Bool.noConfusion h.2.2)).symm)
        | false => exact ev_neg (by simp) (ev_ret (if_pos ⟨h1, h2, rfl⟩).symm)
      · exact ev_neg h2 (ev_ret (if_neg (fun h => h2 h.2.1)).symm)
    · exact ev_neg (fun h => h1 ((toB_nil_iff name).1 h)) (ev_ret (if_neg (fun h => h1 h.1)).symm)
  refine ev_neg k0 ?_
  by_cases k7 : kind = 7
  · refine ev_pos k7 ?_
    have e : cellsOf ⟨kind, name, n, hex, raw⟩ = if name = [] ∧ raw = 0 then numCells n hex 8 2 else [] := by unfold cellsOf; simp only; rw [if_neg k0, if_pos k7]
    rw [e]
    by_cases h1 : name = []
    · refine ev_pos ((toB_nil_iff name).2 h1) ?_
      by_cases h2 : raw = 0
      · exact ev_pos h2 (ev_bind (ev_eq (spec_l04Num_eq n hex 8 2 hn (by omega) (by omega))) (ev_ret (if_pos ⟨h1, h2⟩).symm))
      · exact ev_neg h2 (ev_ret (if_neg (fun h => h2 h.2)).symm)
    · exact ev_neg (fun h => h1 ((toB_nil_iff name).1 h)) (ev_ret (if_neg (fun h => h1 h.1)).symm)
  refine ev_neg k7 ?_
  by_cases k8 : kind = 8
  · refine ev_pos k8 ?_
    have e : cellsOf ⟨kind, name, n, hex, raw⟩ = if name = [] ∧ raw = 0 then numCells n hex 6 5 else [] := by unfold cellsOf; simp only; rw [if_neg k0, if_neg k7, if_pos k8]
    rw [e]
    by_cases h1 : name = []
    · refine ev_pos ((toB_nil_iff name).2 h1) ?_
      by_cases h2 : raw = 0
      · exact ev_pos h2 (ev_bind (ev_eq (spec_l04Num_eq n hex 6 5 hn (by omega) (by omega))) (ev_ret (if_pos ⟨h1, h2⟩).symm))
      · exact ev_neg h2 (ev_ret (if_neg (fun h => h2 h.2)).symm)
    · exact ev_neg (fun h => h1 ((toB_nil_iff name).1 h)) (ev_ret (if_neg (fun h => h1 h.1)).symm)
  refine ev_neg k8 ?_
  by_cases k9 : kind = 9
  · have hp := pack_length name
    have hwl := word_length 12 (pack name)
    have e : cellsOf ⟨kind, name, n, hex, raw⟩ = if hex = false ∧ raw = 0 ∧ (pack name).length = 1 then word 12 (pack name) ++ [n % 4294967296] else [] := by unfold cellsOf; simp only; rw [if_neg k0, if_neg k7, if_neg k8, if_pos k9]
    rw [e]
    refine ev_pos k9 (ev_bind (spec_l04Word_ev 12 (by omega) name) ?_)
    by_cases h1 : (pack name).length = 1
    · refine ev_pos (by omega) ?_
      cases hex with
      | true => exact ev_pos rfl (ev_ret (if_neg (fun h => Bool.noConfusion h.1)).symm)
      | false =>
        refine ev_neg (by simp) ?_
        by_cases h2 : raw = 0
        · exact ev_pos h2 (ev_pos (by omega) (ev_ret (if_pos ⟨rfl, h2, h1⟩).symm))
        · exact ev_neg h2 (ev_ret (if_neg (fun h => h2 h.2.1)).symm)
    · exact ev_neg (by omega) (ev_ret (if_neg (fun h => h1 h.2.2)).symm)
  have e : cellsOf ⟨kind, name, n, hex, raw⟩ = if 0 < tagOf kind ∧ n = 0 ∧ hex = false ∧ raw = 0 then word (tagOf kind) (pack name) else [] := by unfold cellsOf; simp only; rw [if_neg k0, if_neg k7, if_neg k8, if_neg k9]
  rw [e]
  refine ev_neg k9 (ev_bind (ev_eq (spec_l04Tag_eq kind)) ?_)
  have ht := tagOf_range kind
  by_cases hp : 0 < tagOf kind
  · refine ev_pos hp ?_
    by_cases hq : n = 0 ∧ hex = false ∧ raw = 0
    · exact ev_pos (hb.2 hq) (ev_bind (spec_l04Word_ev _ (by omega) name) (ev_ret (if_pos ⟨hp, hq⟩).symm))
    · exact ev_neg (fun h => hq (hb.1 h)) (ev_ret (if_neg (fun h => hq h.2)).symm)
  · exact ev_neg hp (ev_ret (if_neg (fun h => hp h.1)).symm)
theorem spec_CellsOf_ev (it : It) (hn : -2147483648 ≤ it.n ∧ it.n ≤ 2147483647) : Ev (fun k => spec_CellsOf.f k it.kind (toB it.name) it.n it.hex it.raw) (cellsOf it) := by
  unfold spec_CellsOf.f
  by_cases h1 : it.n = 0
  · refine ev_pos h1 ?_
    cases h2 : it.hex with
    | true =>
      refine ev_pos rfl ?_
      rw [← h2]
      exact spec_CellsOf_j0 it hn _ (by simp [h2])
    | false =>
      refine ev_neg (by simp) ?_
      rw [← h2]
      exact spec_CellsOf_j0 it hn _ (by simp [h1, h2])
  · exact ev_neg h1 (spec_CellsOf_j0 it hn _ (by simp [h1]))

/-! ### spec_ItemOk -/
theorem spec_ItemOk_ev (it : It) (hn : -2147483648 ≤ it.n ∧ it.n ≤ 2147483647) : Ev (fun k => spec_ItemOk.f k it.kind (toB it.name) it.n it.hex it.raw) (decide (0 < (cellsOf it).length)) := by
  refine ev_bind (spec_CellsOf_ev it hn) (ev_ret ?_)
  rw [Bool.eq_iff_iff, decide_eq_true_eq, decide_eq_true_eq]; omega

/-! ### textLen -/
theorem itemText_len (it : It) (hn : -2147483648 ≤ it.n ∧ it.n ≤ 2147483647) (hr : 0 ≤ it.raw ∧ it.raw ≤ 4294967295) : (itemText it).length ≤ it.name.length + 30 := by
  have h1 := itoa_len32 hn
  have h2 := hexL_len32 (u := it.raw.toNat) (by omega)
  have h3 := hexL_len32 (u := (it.n % 4294967296).toNat) (by omega)
  have hnum : (numL it.n it.hex).length ≤ 22 := by
    unfold numL
    split <;> (rw [List.length_cons]; omega)
  have m1 := markL_len it.kind
  have m2 := markL_len 9
  have m3 := markL_len 0
  unfold itemText
  split
  · split
    · rw [List.length_append]; omega
    · split
      · rw [List.length_append, List.length_append, List.length_cons]; omega
      · split
        · rw [List.length_append]; omega
        · rw [List.length_append]; omega
  · exact Nat.zero_le _

/-! ### FnItem -/
theorem FnItem : laws_FnItem.Pure := by
  intro l hl hz hw
  refine Ev.rounds (r := true) ?_
  refine ev_bind (ev_eq (laws_big_eq l)) ?_
  by_cases hs : (l.length : Int) > 1048576
  · exact ev_pos (decide_eq_true hs) (ev_ret rfl)
  refine ev_neg (by simpa using hs) ?_
  obtain ⟨it, e, hn, hr, hm⟩ := spec_DrawItemText_ev l (by omega)
  have hlen := itemText_len it hn hr
  have et := impl_ItemText_ev it hn hr (by omega)
  refine ev_bind e (ev_bind et (ev_bind (impl_ReadItem_ev (itemText it) (by omega)) (ev_bind (spec_ItemOk_ev it hn) ?_)))
  by_cases hok : 0 < (cellsOf it).length
  · rw [readR_text it ⟨hn, hr⟩ hok]
    refine ev_pos (decide_eq_true hok) (ev_pos rfl (ev_ret ?_))
    simp [tup6]
  · have ht : itemText it = [] := if_neg hok
    rw [ht] at et ⊢
    have e0 : readR [] = (rawIt 0, false) := if_neg (fun h => h.1 rfl)
    rw [e0]
    exact ev_neg (by simpa using hok) (ev_neg (by simp [tup6]) (ev_bind et (ev_ret (by rw [toB_list]; rfl))))

end Go.Proofs.YtfjmpdcflnaogaaDoor.Pure
