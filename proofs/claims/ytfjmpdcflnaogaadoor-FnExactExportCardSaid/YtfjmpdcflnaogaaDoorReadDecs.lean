/-
Decimal numerals read; no conditions beyond those written in each.
-/
import Derived.Test.YtfjmpdcflnaogaaDoorSpots
import Derived.Lib.ItoaNum
import Derived.Lib.AtoiTie
import Derived.Lib.ItoaLen
namespace Go.Proofs.YtfjmpdcflnaogaaDoor.Plain
open Go.RowKit Go.Proofs.YtfjmpdcflnaogaaDoor.Tools Go.Proofs.YtfjmpdcflnaogaaDoorW.PrintWords

theorem decFrom_snoc (b : UInt8) (l : List UInt8) : ∀ acc, Lib.decFrom acc (l ++ [b]) = (Lib.decFrom acc l).bind fun v => (Lib.digitVal b).map fun d => v * 10 + d := by
  induction l with
  | nil => intro acc; simp only [List.nil_append, Lib.decFrom]; cases Lib.digitVal b <;> rfl
  | cons c l ih =>
    intro acc
    simp only [List.cons_append, Lib.decFrom]
    cases Lib.digitVal c with
    | none => rfl
    | some d => exact ih _
theorem digit_dig (d : Nat) (h : d < 10) : Lib.digitVal (UInt8.ofNat (48 + d)) = some d := by
  have e : (UInt8.ofNat (48 + d)).toNat = 48 + d := by rw [UInt8.toNat_ofNat']; omega
  unfold Lib.digitVal
  rw [e, if_pos (by omega)]
  congr 1; omega
theorem dec_back (u : Nat) : Lib.decFrom 0 (Lib.decDigits u) = some u := by
  induction u using Nat.strongRecOn with
  | _ u ih =>
    rw [Lib.decDigits]
    by_cases h : u < 10
    · rw [dif_pos h]
      simp only [Lib.decFrom, digit_dig u h]
      congr 1; omega
    · rw [dif_neg h, decFrom_snoc, ih (u / 10) (by omega), digit_dig _ (Nat.mod_lt _ (by decide))]
      simp only [Option.bind_some, Option.map_some]
      congr 1; omega
theorem dec_ne (u : Nat) : Lib.decDigits u ≠ [] := by
  intro e
  have := Lib.decDigits_length u
  have := Lib.nDigits_pos u
  rw [e] at *
  simp at *
  omega
theorem dec_len {u : Nat} (h : u ≤ 9999999999) : (Lib.decDigits u).length ≤ 10 := by
  rw [Lib.decDigits_length]
  have h1 := Lib.nDigits_pos u
  rcases Nat.lt_or_ge (Lib.nDigits u) 11 with hl | hl
  · omega
  · exfalso
    have key : ∀ (k u : Nat), k + 1 ≤ Lib.nDigits u → 1 ≤ u → 10 ^ k ≤ u := by
      intro k
      induction k with
      | zero => intro u _ h; simpa using h
      | succ k ih =>
        intro u hk hu
        by_cases hs : u < 10
        · rw [Lib.nDigits_small hs] at hk; omega
        · rw [Lib.nDigits_big hs] at hk
          have := ih (u / 10) (by omega) (by omega)
          rw [Nat.pow_succ]; omega
    have hu : 1 ≤ u := by
      rcases Nat.eq_zero_or_pos u with e | e
      · rw [e, Lib.nDigits_small (by decide)] at hl; omega
      · exact e
    have := key 10 u (by omega) hu
    have e10 : (10 : Nat) ^ 10 = 10000000000 := by decide
    omega
theorem decNat_dec (u : Nat) : Lib.decNat (Lib.decDigits u) = some u := by
  unfold Lib.decNat
  rw [if_neg (by simpa using dec_ne u), dec_back]
/-- Is the first byte of a numeral a digit. -/
theorem dec_first (u : Nat) {b : UInt8} {r : List UInt8} (h : Lib.decDigits u = b :: r) : b ≠ 45 ∧ b ≠ 43 := by
  have e := dec_back u
  rw [h] at e
  simp only [Lib.decFrom] at e
  constructor
  · rintro rfl; simp [Lib.digitVal] at e
  · rintro rfl; simp [Lib.digitVal] at e
theorem atoi_itoa (n : Int) : Lib.atoi (Lib.itoa n) = some n := by
  unfold Lib.itoa
  split
  · simp only [Lib.atoi]
    rw [if_pos (by decide), decNat_dec]
    simp only [Option.map_some]
    congr 1; omega
  · obtain ⟨b, r, e⟩ := List.exists_cons_of_ne_nil (dec_ne n.toNat)
    have hb := dec_first _ e
    have e2 := decNat_dec n.toNat
    rw [e] at e2 ⊢
    simp only [Lib.atoi]
    rw [if_neg (by simpa using hb.1), if_neg (by simpa using hb.2), e2]
    simp only [Option.map_some]
    congr 1; omega
theorem itoa_len {n : Int} (h0 : -9999999999 ≤ n) (h1 : n ≤ 9999999999) : (Lib.itoa n).length ≤ 11 ∧ 1 ≤ (Lib.itoa n).length := by
  unfold Lib.itoa
  split
  · have := dec_len (u := n.natAbs) (by omega)
    rw [List.length_cons]; omega
  · have := dec_len (u := n.toNat) (by omega)
    have := List.length_pos_iff.2 (dec_ne n.toNat)
    omega
theorem atoiAll_itoa {n : Int} (h0 : -9999999999 ≤ n) (h1 : n ≤ 9999999999) : Lib.atoiAll (Lib.itoa n) = .ok n := by
  rw [Lib.atoiAll_short _ (by have := (itoa_len h0 h1).1; omega), atoi_itoa]; rfl
theorem itoa_inj {m n : Int} (h : Lib.itoa m = Lib.itoa n) : m = n := by
  have e := atoi_itoa m
  rw [h, atoi_itoa n] at e
  exact (Option.some.inj e).symm
/-- Is it the numeral of a small number. -/
def isDec (l : List UInt8) : Prop := ∃ n : Int, (-9999999999 ≤ n ∧ n ≤ 9999999999) ∧ Lib.itoa n = l
open Classical in
/-- What reading tells. -/
noncomputable def decR (l : List UInt8) : Int × Bool := if h : isDec l then (Classical.choose h, true) else (0, false)
theorem decR_itoa {n : Int} (h0 : -9999999999 ≤ n) (h1 : n ≤ 9999999999) : decR (Lib.itoa n) = (n, true) := by
  have h : isDec (Lib.itoa n) := ⟨n, ⟨h0, h1⟩, rfl⟩
  unfold decR
  rw [dif_pos h, itoa_inj (Classical.choose_spec h).2]
theorem decR_no {l : List UInt8} (h : ¬ isDec l) : decR l = (0, false) := dif_neg h
/-- One number's test. -/
def finD (l : List UInt8) (n : Int) : Int × Bool := if (-9999999999 ≤ n ∧ n ≤ 9999999999) ∧ Lib.itoa n = l then (n, true) else (0, false)
theorem finD_of (l : List UInt8) (n : Int) (h : ∀ m, (-9999999999 ≤ m ∧ m ≤ 9999999999) → Lib.itoa m = l → m = n) : finD l n = decR l := by
  unfold finD
  by_cases hd : isDec l
  · obtain ⟨m, hb, e⟩ := hd
    obtain rfl := h m hb e
    rw [if_pos ⟨hb, e⟩, ← e, decR_itoa hb.1 hb.2]
  · rw [decR_no hd, if_neg]
    rintro ⟨hb, e⟩
    exact hd ⟨n, hb, e⟩
end Go.Proofs.YtfjmpdcflnaogaaDoor.Plain
