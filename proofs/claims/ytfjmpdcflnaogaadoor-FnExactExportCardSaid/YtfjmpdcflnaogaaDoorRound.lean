/-
Letters come back from their codes, names from their fields; no conditions beyond those written in each.
-/
import Derived.Test.YtfjmpdcflnaogaaDoorNames
namespace Go.Proofs.YtfjmpdcflnaogaaDoor.Plain
open Go.RowKit Go.Proofs.YtfjmpdcflnaogaaDoor.Tools Go.Proofs.YtfjmpdcflnaogaaDoorW.PrintWords

theorem div_div_pow (y : Int) (a b : Nat) : y / 2 ^ a / 2 ^ b = y / 2 ^ (a + b) := by
  rw [Int.ediv_ediv_of_nonneg (Int.le_of_lt (two_pow_pos a)), Int.pow_add]
theorem hit_top {x n k : Int} (h : hit x n k) (h0 : 0 ≤ widthOf k) : x % 2 ^ n.toNat / 2 ^ (n - widthOf k).toNat = bitsOf k := by
  rw [head_split x h0 h.1]; exact h.2
theorem hit_unique {x n k k' : Int} (h0 : 0 ≤ k ∧ k ≤ 47) (h0' : 0 ≤ k' ∧ k' ≤ 47) (h : hit x n k) (h' : hit x n k') : k = k' := by
  have key : ∀ {k k' : Int}, 0 ≤ k ∧ k ≤ 47 → 0 ≤ k' ∧ k' ≤ 47 → hit x n k → hit x n k' → widthOf k ≤ widthOf k' → k = k' := by
    intro k k' h0 h0' h h' hw
    have w := width_in h0.1 h0.2
    have w' := width_in h0'.1 h0'.2
    have t := hit_top h (by omega)
    have t' := hit_top h' (by omega)
    have hn := h'.1
    have e : (n - widthOf k).toNat = (n - widthOf k').toNat + (widthOf k' - widthOf k).toNat := by omega
    rw [e, ← div_div_pow, t'] at t
    rcases width_cases k with ⟨a, b, c⟩ | ⟨a, b, c⟩ | ⟨a, b, c⟩ | ⟨a, b, c⟩ <;> rcases width_cases k' with ⟨a', b', c'⟩ | ⟨a', b', c'⟩ | ⟨a', b', c'⟩ | ⟨a', b', c'⟩ <;> rw [a, b, a', b'] at t <;> simp at t <;> omega
  by_cases hw : widthOf k ≤ widthOf k'
  · exact key h0 h0' h h' hw
  · exact (key h0' h0 h' h (by omega)).symm
theorem decFrom_hit {x n k : Int} (h0 : 0 ≤ k ∧ k ≤ 47) (h : hit x n k) (d : Nat) (hd : d ≤ 48) (hk : 48 - (d : Int) ≤ k) : decFrom x n d = (k, widthOf k) := by
  induction d with
  | zero => omega
  | succ d ih =>
    unfold decFrom
    by_cases e : hit x n (47 - d)
    · rw [if_pos e, hit_unique (by omega) h0 e h]
    · rw [if_neg e]
      refine ih (by omega) ?_
      have : (47 - (d : Int)) ≠ k := fun e2 => e (e2 ▸ h)
      omega
theorem dcode_hit {x n k : Int} (h0 : 0 ≤ k ∧ k ≤ 47) (hn : 1 ≤ n ∧ n ≤ 32) (h : hit x n k) : dcode x n = (k, widthOf k) := by
  unfold dcode
  rw [if_pos hn]
  exact decFrom_hit h0 h 48 (by omega) (by omega)
/-- A code at the head, whatever stands behind. -/
theorem hit_code {k : Int} (h0 : 0 ≤ k ∧ k ≤ 47) (x n : Int) (j : Int) (hw : widthOf k ≤ n) (hx : x % 2 ^ n.toNat = bitsOf k * 2 ^ (n - widthOf k).toNat + j) (hj : 0 ≤ j ∧ j < 2 ^ (n - widthOf k).toNat) : hit x n k := by
  have w := width_in h0.1 h0.2
  refine ⟨hw, ?_⟩
  rw [← head_split x (by omega) hw, hx, Int.mul_comm, Int.add_comm, Int.add_mul_ediv_left _ _ (by have := two_pow_pos (n - widthOf k).toNat; omega), Int.ediv_eq_zero_of_lt hj.1 hj.2]
  omega
theorem upk_one (l : List UInt8) : ∀ (f : Int) (d : Nat) (left : Int), (∀ b ∈ l, 1 ≤ lo b) → 0 ≤ left → left ≤ 28 → left ≤ 4 * d → f % 2 ^ left.toNat = (one l left).1 → upk f d left = l.take (one l left).2 := by
  induction l with
  | nil =>
    intro f d left hb h0 h1 h2 hf
    simp only [one] at hf ⊢
    cases d with
    | zero => rfl
    | succ d => rw [upk, if_pos hf]; rfl
  | cons b t ih =>
    intro f d left hb h0 h1 h2 hf
    have hl := lo_range b
    have hb1 := hb b (List.mem_cons_self)
    have w := width_in (k := lo b) (by omega) (by omega)
    have hbt : ∀ c ∈ t, 1 ≤ lo c := fun c hc => hb c (List.mem_cons_of_mem _ hc)
    unfold one at hf ⊢
    by_cases hw : widthOf (lo b) > left
    · rw [if_pos hw] at hf ⊢
      cases d with
      | zero => rfl
      | succ d => rw [upk, if_pos hf]; rfl
    · rw [if_neg hw] at hf ⊢
      simp only at hf ⊢
      obtain ⟨r1, r2, r3⟩ := one_range t (left - widthOf (lo b)) (by omega) (by omega) hbt
      have hp := two_pow_pos (left - widthOf (lo b)).toNat
      have hpos : 1 ≤ bitsOf (lo b) := by rcases width_cases (lo b) with h | h | h | h <;> omega
      cases d with
      | zero => omega
      | succ d =>
        have hne : f % 2 ^ left.toNat ≠ 0 := by
          rw [hf]
          have := Int.mul_le_mul_of_nonneg_right hpos (show (0 : Int) ≤ 2 ^ (left - widthOf (lo b)).toNat by omega)
          omega
        have hh := dcode_hit (x := f) (n := left) (k := lo b) (by omega) (by omega) (hit_code (by omega) f left _ (by omega) hf ⟨r1, r2⟩)
        rw [upk, if_neg hne, hh]
        simp only
        rw [if_neg (by omega), letter_lo b (by omega), List.take_succ_cons]
        congr 1
        refine ih f d (left - widthOf (lo b)) hbt (by omega) (by omega) (by omega) ?_
        have e : left.toNat = (left - widthOf (lo b)).toNat + (widthOf (lo b)).toNat := by omega
        have h3 : f % 2 ^ left.toNat % 2 ^ (left - widthOf (lo b)).toNat = f % 2 ^ (left - widthOf (lo b)).toNat := by
          rw [e, Int.pow_add]; exact Int.emod_emod_of_dvd f (Int.dvd_mul_right _ _)
        rw [← h3, hf, Int.mul_comm, Int.add_comm, Int.add_mul_emod_self_left]
        exact Int.emod_eq_of_lt r1 r2
theorem unpackOne_one (l : List UInt8) (hb : ∀ b ∈ l, 1 ≤ lo b) : unpackOne (one l 28).1 = l.take (one l 28).2 := by
  have h := one_range l 28 (by omega) (by omega) hb
  have h2 : (one l 28).1 < 268435456 := h.2.1
  unfold unpackOne
  rw [if_neg (by omega)]
  refine upk_one l _ 8 28 hb (by omega) (by omega) (by omega) ?_
  exact Int.emod_eq_of_lt h.1 h.2.1
theorem unpackAll_packF (n : Nat) : ∀ l : List UInt8, l.length ≤ n → (∀ b ∈ l, 1 ≤ lo b) → unpackAll (packF l.length l) = l := by
  induction n with
  | zero =>
    intro l hl hb
    have : l = [] := List.eq_nil_of_length_eq_zero (by omega)
    subst this
    rfl
  | succ n ih =>
    intro l hl hb
    by_cases h : l = []
    · subst h; rfl
    · have h1 := one_pos h (left := 28) (by omega)
      rw [packF_step h]
      unfold unpackAll
      rw [List.flatMap_cons, unpackOne_one l hb]
      have := ih (l.drop (one l 28).2) (by rw [List.length_drop]; omega) (fun b hb' => hb b (List.mem_of_mem_drop hb'))
      unfold unpackAll at this
      rw [this, List.take_append_drop]
theorem unpack_pack {l : List UInt8} (h : okName l = true) : unpack (pack l) = (l, true) := by
  obtain ⟨h1, h2, h3⟩ := (okName_iff l).1 h
  have e : unpackAll (pack l) = l := by
    unfold pack; rw [if_pos h]; exact unpackAll_packF l.length l (by omega) h3
  unfold unpack
  rw [if_neg (by have := pack_length l; omega), e, if_pos ⟨h, rfl⟩]
theorem one_take (l : List UInt8) : ∀ left : Int, one (l.take (one l left).2) left = one l left := by
  induction l with
  | nil => intro left; rfl
  | cons b t ih =>
    intro left
    by_cases hw : widthOf (lo b) > left
    · have e : one (b :: t) left = (0, 0) := by rw [one, if_pos hw]
      rw [e]; rfl
    · have e : one (b :: t) left = (bitsOf (lo b) * 2 ^ (left - widthOf (lo b)).toNat + (one t (left - widthOf (lo b))).1, (one t (left - widthOf (lo b))).2 + 1) := by rw [one, if_neg hw]
      rw [e, List.take_succ_cons, one, if_neg hw, ih]
theorem fieldOk_one {l : List UInt8} (hne : l ≠ []) (hlen : l.length ≤ 24) (hb : ∀ b ∈ l, 1 ≤ lo b) : fieldOk (one l 28).1 = true := by
  have h1 := one_pos hne (left := 28) (by omega)
  have h2 := one_range l 28 (by omega) (by omega) hb
  unfold fieldOk
  rw [decide_eq_true_eq, unpackOne_one l hb]
  have hl : (l.take (one l 28).2).length = (one l 28).2 := by rw [List.length_take]; omega
  have hok : okName (l.take (one l 28).2) = true := (okName_iff _).2 ⟨by omega, by omega, fun b hb' => hb b (List.mem_of_mem_take hb')⟩
  unfold pack
  rw [if_pos hok, packF_step (by intro e; rw [e] at hl; simp at hl; omega), one_take, List.drop_of_length_le (by omega)]
  rfl
theorem packF_fieldOk (n : Nat) : ∀ l : List UInt8, l.length ≤ n → l.length ≤ 24 → (∀ b ∈ l, 1 ≤ lo b) → ∀ f ∈ packF l.length l, fieldOk f = true ∧ 0 ≤ f ∧ f < 268435456 := by
  induction n with
  | zero =>
    intro l hl h24 hb f hf
    have : l = [] := List.eq_nil_of_length_eq_zero (by omega)
    subst this
    simp [packF] at hf
  | succ n ih =>
    intro l hl h24 hb f hf
    by_cases h : l = []
    · subst h; simp [packF] at hf
    · have h1 := one_pos h (left := 28) (by omega)
      rw [packF_step h, List.mem_cons] at hf
      rcases hf with rfl | hf
      · have h2 := one_range l 28 (by omega) (by omega) hb
        exact ⟨fieldOk_one h h24 hb, h2.1, h2.2.1⟩
      · exact ih (l.drop (one l 28).2) (by rw [List.length_drop]; omega) (by rw [List.length_drop]; omega) (fun b hb' => hb b (List.mem_of_mem_drop hb')) f hf
theorem pack_fields {l : List UInt8} : ∀ f ∈ pack l, fieldOk f = true ∧ 0 ≤ f ∧ f < 268435456 := by
  intro f hf
  unfold pack at hf
  split at hf
  · rename_i h
    obtain ⟨h1, h2, h3⟩ := (okName_iff l).1 h
    exact packF_fieldOk l.length l (by omega) h2 h3 f hf
  · simp at hf
theorem pack_ne {l : List UInt8} (h : okName l = true) : 1 ≤ (pack l).length := by
  obtain ⟨h1, h2, h3⟩ := (okName_iff l).1 h
  unfold pack
  rw [if_pos h, packF_step (by intro e; subst e; simp at h1)]
  simp
theorem okName_of_pack {l : List UInt8} (h : pack l ≠ []) : okName l = true := by
  cases e : okName l with
  | true => rfl
  | false => exact absurd (by unfold pack; rw [e]; rfl) h
end Go.Proofs.YtfjmpdcflnaogaaDoor.Plain
