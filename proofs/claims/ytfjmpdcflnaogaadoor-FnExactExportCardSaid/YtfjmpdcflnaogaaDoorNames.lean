/-
Names packed into fields of 28 bits, as plain lists of bytes and numbers; no conditions beyond those written in each.
-/
import Derived.Test.YtfjmpdcflnaogaaDoorTools
import Derived.Test.YtfjmpdcflnaogaaDoorLetters
import Derived.Test.YtfjmpdcflnaogaaDoorHeads
import Derived.Test.YtfjmpdcflnaogaaDoorSpots
import Derived.Lib.Bytealg
namespace Go.Proofs.YtfjmpdcflnaogaaDoor.Plain
open Go.RowKit Go.Proofs.YtfjmpdcflnaogaaDoor.Tools Go.Proofs.YtfjmpdcflnaogaaDoorW.PrintWords

/-- A letter's number, -1 where it is none. -/
def lo (b : UInt8) : Int := Lib.indexByte lettersB.data.toList b
/-- The letter of a number. -/
def letter (k : Int) : UInt8 := lettersB.data.toList.getD k.toNat 0
theorem all_bytes {P : UInt8 → Prop} (h : ∀ n : Fin 256, P (UInt8.ofNat n.val)) (b : UInt8) : P b := by
  have := h ⟨b.toNat, b.toNat_lt⟩
  simpa using this
theorem lo_range : ∀ b : UInt8, -1 ≤ lo b ∧ lo b ≤ 47 := all_bytes (by decide +kernel)
theorem letter_lo : ∀ b : UInt8, 0 ≤ lo b → letter (lo b) = b := all_bytes (by decide +kernel)
theorem lo_letter_nat : ∀ k : Fin 48, lo (letter (k.val : Int)) = k.val := by decide +kernel
theorem lo_letter {k : Int} (h0 : 0 ≤ k) (h1 : k ≤ 47) : lo (letter k) = k := by
  have := lo_letter_nat ⟨k.toNat, by omega⟩
  simp only at this
  rwa [Int.toNat_of_nonneg h0] at this
theorem bt_letter_nat : ∀ k : Fin 48, bt lettersB (k.val : Int) = ((letter (k.val : Int)).toNat : Int) := by decide +kernel
theorem bt_letter {k : Int} (h0 : 0 ≤ k) (h1 : k ≤ 47) : bt lettersB k = ((letter k).toNat : Int) := by
  have := bt_letter_nat ⟨k.toNat, by omega⟩
  simp only at this
  rwa [Int.toNat_of_nonneg h0] at this
def okName (l : List UInt8) : Bool := decide (1 ≤ l.length) && decide (l.length ≤ 24) && l.all (fun b => decide (1 ≤ lo b))
theorem okName_iff (l : List UInt8) : okName l = true ↔ (1 ≤ l.length ∧ l.length ≤ 24 ∧ ∀ b ∈ l, 1 ≤ lo b) := by
  unfold okName
  simp only [Bool.and_eq_true, decide_eq_true_eq, List.all_eq_true, and_assoc]
/-- The field of as many first letters as fit into what is left, and how many. -/
def one : List UInt8 → Int → Int × Nat
  | [], _ => (0, 0)
  | b :: t, left => if widthOf (lo b) > left then (0, 0) else (bitsOf (lo b) * 2 ^ (left - widthOf (lo b)).toNat + (one t (left - widthOf (lo b))).1, (one t (left - widthOf (lo b))).2 + 1)
def packF : Nat → List UInt8 → List Int
  | 0, _ => []
  | k + 1, l => if l = [] then [] else (one l 28).1 :: packF k (l.drop (one l 28).2)
def pack (l : List UInt8) : List Int := if okName l = true then packF l.length l else []
/-- The letters in the lowest bits of a field. -/
def upk (f : Int) : Nat → Int → List UInt8
  | 0, _ => []
  | d + 1, left => if f % 2 ^ left.toNat = 0 then [] else if (dcode f left).1 < 1 then [] else letter (dcode f left).1 :: upk f d (left - (dcode f left).2)
def unpackOne (f : Int) : List UInt8 := if f ≥ 268435456 then [] else upk f 8 28
def unpackAll (list : List Int) : List UInt8 := list.flatMap unpackOne
def unpack (list : List Int) : List UInt8 × Bool :=
  if list.length > 24 then ([], false) else if okName (unpackAll list) = true ∧ pack (unpackAll list) = list then (unpackAll list, true) else ([], false)
def fieldOk (f : Int) : Bool := decide (pack (unpackOne f) = [f])

theorem decFrom_range (x n : Int) (d : Nat) (hd : d ≤ 48) : -1 ≤ (decFrom x n d).1 ∧ (decFrom x n d).1 ≤ 47 ∧ 0 ≤ (decFrom x n d).2 ∧ (1 ≤ (decFrom x n d).1 → 4 ≤ (decFrom x n d).2 ∧ (decFrom x n d).2 ≤ 7 ∧ (decFrom x n d).2 ≤ n) := by
  induction d with
  | zero => simp [decFrom]
  | succ d ih =>
    unfold decFrom
    split
    · rename_i h
      have := width_in (k := 47 - (d : Int)) (by omega) (by omega)
      have := h.1
      simp only
      omega
    · exact ih (by omega)
theorem dcode_range (x n : Int) : -1 ≤ (dcode x n).1 ∧ (dcode x n).1 ≤ 47 ∧ 0 ≤ (dcode x n).2 ∧ (1 ≤ (dcode x n).1 → 4 ≤ (dcode x n).2 ∧ (dcode x n).2 ≤ 7 ∧ (dcode x n).2 ≤ n) := by
  unfold dcode
  split
  · exact decFrom_range x n 48 (by omega)
  · simp
theorem one_range (l : List UInt8) : ∀ left : Int, 0 ≤ left → left ≤ 28 → (∀ b ∈ l, 1 ≤ lo b) → 0 ≤ (one l left).1 ∧ (one l left).1 < 2 ^ left.toNat ∧ (one l left).2 ≤ l.length := by
  induction l with
  | nil => intro left h0 h1 hb; exact ⟨by simp [one], by simpa [one] using two_pow_pos left.toNat, by simp [one]⟩
  | cons b t ih =>
    intro left h0 h1 hb
    unfold one
    split
    · exact ⟨by simp, by simpa using two_pow_pos left.toNat, by simp⟩
    · rename_i hw
      have hl := lo_range b
      have h1' := hb b (List.mem_cons_self)
      have w := width_in (k := lo b) (by omega) (by omega)
      obtain ⟨i1, i2, i3⟩ := ih (left - widthOf (lo b)) (by omega) (by omega) (fun c hc => hb c (List.mem_cons_of_mem _ hc))
      have e : left.toNat = (widthOf (lo b)).toNat + (left - widthOf (lo b)).toNat := by omega
      have hp := two_pow_pos (left - widthOf (lo b)).toNat
      refine ⟨?_, ?_, by simp only [List.length_cons]; omega⟩
      · have := Int.mul_nonneg w.2.2.1 (show 0 ≤ (2 : Int) ^ (left - widthOf (lo b)).toNat by omega)
        simp only; omega
      · rw [e, Int.pow_add]
        have : (bitsOf (lo b) + 1) * 2 ^ (left - widthOf (lo b)).toNat ≤ 2 ^ (widthOf (lo b)).toNat * 2 ^ (left - widthOf (lo b)).toNat := Int.mul_le_mul_of_nonneg_right (by omega) (by omega)
        rw [Int.add_mul] at this
        simp only; omega
theorem one_pos {l : List UInt8} {left : Int} (hl : l ≠ []) (h : 7 ≤ left) : 1 ≤ (one l left).2 := by
  cases l with
  | nil => exact absurd rfl hl
  | cons b t =>
    unfold one
    have hb := lo_range b
    rw [if_neg ?_]
    · simp only; omega
    · rcases width_cases (lo b) with h | h | h | h <;> omega
theorem packF_fuel (l : List UInt8) : ∀ k, l.length ≤ k → packF k l = packF l.length l := by
  intro k
  induction k using Nat.strongRecOn generalizing l with
  | ind k ih =>
    intro hk
    cases hl : l with
    | nil => cases k <;> simp [packF]
    | cons b t =>
      cases k with
      | zero => rw [hl] at hk; simp at hk
      | succ k =>
        rw [List.length_cons, packF, packF, if_neg (by simp), if_neg (by simp)]
        have h1 := one_pos (l := b :: t) (left := 28) (by simp) (by omega)
        have e1 : ((b :: t).drop (one (b :: t) 28).2).length ≤ t.length := by rw [List.length_drop, List.length_cons]; omega
        have hk' : t.length ≤ k := by rw [hl, List.length_cons] at hk; omega
        rw [ih k (by omega) _ (by omega)]
        by_cases e : t.length = k
        · subst e; rw [ih t.length (by omega) _ e1]
        · rw [ih t.length (by omega) _ e1]
theorem packF_step {l : List UInt8} (h : l ≠ []) : packF l.length l = (one l 28).1 :: packF (l.drop (one l 28).2).length (l.drop (one l 28).2) := by
  cases hl : l with
  | nil => exact absurd hl h
  | cons b t =>
    rw [List.length_cons, packF, if_neg (by simp)]
    have h1 := one_pos (l := b :: t) (left := 28) (by simp) (by omega)
    rw [packF_fuel _ t.length (by rw [List.length_drop, List.length_cons]; omega)]
theorem strOf_map (l : List UInt8) : strOfNums (l.map (fun b => (b.toNat : Int))) = toB l := by
  unfold strOfNums toB
  simp [Function.comp_def]
theorem map_snoc (l : List UInt8) (b : UInt8) : l.map (fun b => (b.toNat : Int)) ++ [(b.toNat : Int)] = (l ++ [b]).map (fun b => (b.toNat : Int)) := by simp
theorem toB_append (a b : List UInt8) : toB a ++ toB b = toB (a ++ b) := by
  apply ba_ext
  simp [toB]
theorem upk_length (f : Int) (d : Nat) : ∀ left, (upk f d left).length ≤ d := by
  induction d with
  | zero => intro left; simp [upk]
  | succ d ih =>
    intro left
    unfold upk
    split
    · simp
    · split
      · simp
      · simp only [List.length_cons]; have := ih (left - (dcode f left).2); omega
theorem unpackOne_length (f : Int) : (unpackOne f).length ≤ 8 := by
  unfold unpackOne
  split
  · simp
  · exact upk_length f 8 28
theorem packF_length (k : Nat) : ∀ l, (packF k l).length ≤ k := by
  induction k with
  | zero => intro l; simp [packF]
  | succ k ih =>
    intro l
    unfold packF
    split
    · simp
    · simp only [List.length_cons]; have := ih (l.drop (one l 28).2); omega
theorem pack_length (l : List UInt8) : (pack l).length ≤ 24 := by
  unfold pack
  split
  · rename_i h
    have := packF_length l.length l
    have := ((okName_iff l).1 h).2.1
    omega
  · simp
end Go.Proofs.YtfjmpdcflnaogaaDoor.Plain
