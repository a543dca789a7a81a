/-
Plain laws on words, letters, names, items and numerals; no conditions beyond those written in each.
-/
import Derived.Test.YtfjmpdcflnaogaaGreatDoorTools
import Derived.Laws.BitsLemmas
import Derived.Lib.Bytealg
import Derived.Lib.ItoaNum
import Derived.Laws.CopyOwn
import Derived.Lib.AtoiTie
import Derived.Lib.ItoaLen
namespace Go.Proofs.YtfjmpdcflnaogaaGreatDoor.Plain
open Go.Proofs.YtfjmpdcflnaogaaGreatDoor.Tools Go.RowKit Go.Proofs.YtfjmpdcflnaogaaGreatDoorW.PrintWords Go.Proofs.YtfjmpdcflnaogaaGreatDoorW.PrintMore
set_option linter.unusedVariables false
/-- The letters, each a byte. -/
def lettersB : ByteArray := ⟨#[32, 114, 116, 111, 101, 97, 110, 105, 115, 109, 99, 121, 108, 103, 102, 119, 100, 118, 112, 98, 104, 120, 117, 113, 48, 49, 50, 51, 52, 53, 54, 55, 56, 57, 106, 45, 107, 46, 122, 47, 59, 39, 33, 43, 64, 42, 44, 63]⟩
/-- How many bits a letter's code has. -/
def widthOf (k : Int) : Int := if 0 ≤ k ∧ k ≤ 7 then 4 else if 8 ≤ k ∧ k ≤ 15 then 5 else if 16 ≤ k ∧ k ≤ 47 then 7 else 0
/-- Its code. -/
def bitsOf (k : Int) : Int := if 0 ≤ k ∧ k ≤ 7 then k else if 8 ≤ k ∧ k ≤ 15 then k + 8 else if 16 ≤ k ∧ k ≤ 47 then k + 80 else 0
/-- Does letter k's code stand at the head of n bits? -/
def hit (x n k : Int) : Prop := widthOf k ≤ n ∧ x / 2 ^ (n - widthOf k).toNat % 2 ^ (widthOf k).toNat = bitsOf k
instance (x n k : Int) : Decidable (hit x n k) := by unfold hit; infer_instance
/-- The first letter from 48 - d on whose code stands there. -/
def decFrom (x n : Int) : Nat → Int × Int
  | 0 => (-1, 0)
  | d + 1 => if hit x n (47 - d) then (47 - d, widthOf (47 - d)) else decFrom x n d
def dcode (x n : Int) : Int × Int := if 1 ≤ n ∧ n ≤ 32 then decFrom x n 48 else (-1, 0)

theorem width_cases (k : Int) : (widthOf k = 4 ∧ bitsOf k = k ∧ 0 ≤ k ∧ k ≤ 7) ∨ (widthOf k = 5 ∧ bitsOf k = k + 8 ∧ 8 ≤ k ∧ k ≤ 15) ∨ (widthOf k = 7 ∧ bitsOf k = k + 80 ∧ 16 ≤ k ∧ k ≤ 47) ∨ (widthOf k = 0 ∧ bitsOf k = 0 ∧ (k < 0 ∨ 47 < k)) := by
  unfold widthOf bitsOf
  by_cases h1 : 0 ≤ k ∧ k ≤ 7
  · left; rw [if_pos h1, if_pos h1]; omega
  rw [if_neg h1, if_neg h1]
  by_cases h2 : 8 ≤ k ∧ k ≤ 15
  · right; left; rw [if_pos h2, if_pos h2]; omega
  rw [if_neg h2, if_neg h2]
  by_cases h3 : 16 ≤ k ∧ k ≤ 47
  · right; right; left; rw [if_pos h3, if_pos h3]; omega
  rw [if_neg h3, if_neg h3]
  right; right; right; omega
theorem width_in {k : Int} (h0 : 0 ≤ k) (h1 : k ≤ 47) : 4 ≤ widthOf k ∧ widthOf k ≤ 7 ∧ 0 ≤ bitsOf k ∧ bitsOf k < 2 ^ (widthOf k).toNat := by
  rcases width_cases k with h | h | h | h <;> obtain ⟨e1, e2, h⟩ := h <;> rw [e1, e2] <;> simp <;> omega
theorem two_pow_le {a b : Nat} (h : a ≤ b) : (2 : Int) ^ a ≤ 2 ^ b := by
  have := Nat.pow_le_pow_right (n := 2) (by decide) h
  exact_mod_cast this
theorem two_pow_pos (a : Nat) : (0 : Int) < 2 ^ a := by
  have := Nat.two_pow_pos a
  exact_mod_cast this
theorem and_u32 {x : Int} {i : Nat} (hx : 0 ≤ x ∧ x ≤ 4294967295) (hi : i ≤ 32) : Go.bits .and .u32 x (2 ^ i - 1) = x % 2 ^ i :=
  bits_mask .u32 32 (by decide) (fun n h0 h1 => by rw [IntKind.wrap_u32]; omega) i hi x hx.1 (by omega)
theorem and_i64 {x : Int} {i : Nat} (hx : 0 ≤ x ∧ x ≤ 9223372036854775807) (hi : i ≤ 63) : Go.bits .and .i64 x (2 ^ i - 1) = x % 2 ^ i :=
  bits_mask .i64 63 (by decide) (fun n h0 h1 => by rw [IntKind.wrap_i64]; omega) i hi x hx.1 (by omega)
theorem shl1_u32 {w : Int} (h0 : 0 ≤ w) (h1 : w ≤ 31) : shl .u32 1 w = 2 ^ w.toNat := by
  unfold shl
  have e : min w.toNat IntKind.u32.bits = w.toNat := by simp only [IntKind.bits]; omega
  rw [e, IntKind.wrap_u32]
  have := two_pow_le (a := w.toNat) (b := 31) (by omega)
  have := two_pow_pos w.toNat
  omega
theorem shl1_i64 {w : Int} (h0 : 0 ≤ w) (h1 : w ≤ 62) : shl .i64 1 w = 2 ^ w.toNat := by
  unfold shl
  have e : min w.toNat IntKind.i64.bits = w.toNat := by simp only [IntKind.bits]; omega
  rw [e, IntKind.wrap_i64]
  have := two_pow_le (a := w.toNat) (b := 62) (by omega)
  have := two_pow_pos w.toNat
  omega
theorem shr_eq {k : IntKind} {x w : Int} (h1 : w.toNat ≤ k.bits) : shr k x w = x / 2 ^ w.toNat := by
  unfold shr
  rw [Nat.min_eq_left h1]
theorem shl_i64 {x y : Int} (hx : 0 ≤ x) (hy : 0 ≤ y ∧ y ≤ 64) (h : x * 2 ^ y.toNat ≤ 9223372036854775807) : shl .i64 x y = x * 2 ^ y.toNat := by
  unfold shl
  have e : min y.toNat IntKind.i64.bits = y.toNat := by simp only [IntKind.bits]; omega
  rw [e, IntKind.wrap_i64]
  have := Int.mul_nonneg hx (show (0 : Int) ≤ 2 ^ y.toNat by have := two_pow_pos y.toNat; omega)
  omega
theorem shl_u32 {x y : Int} (hx : 0 ≤ x) (hy : 0 ≤ y ∧ y ≤ 32) (h : x * 2 ^ y.toNat ≤ 4294967295) : shl .u32 x y = x * 2 ^ y.toNat := by
  unfold shl
  have e : min y.toNat IntKind.u32.bits = y.toNat := by simp only [IntKind.bits]; omega
  rw [e, IntKind.wrap_u32]
  have := Int.mul_nonneg hx (show (0 : Int) ≤ 2 ^ y.toNat by have := two_pow_pos y.toNat; omega)
  omega
theorem or_u32 {x y : Int} (i : Nat) (hx : 0 ≤ x ∧ x ≤ 4294967295) (hm : x % 2 ^ i = 0) (hy : 0 ≤ y) (hy2 : y < 2 ^ i) (hy1 : y ≤ 4294967295) : Go.bits .or .u32 x y = x + y :=
  bits_join .u32 32 (by decide) (fun n h0 h1 => by rw [IntKind.wrap_u32]; omega) i x y hx.1 hm (by omega) hy hy2 (by omega)
theorem div_range {x : Int} {m : Nat} (hx : 0 ≤ x ∧ x ≤ 4294967295) : 0 ≤ x / 2 ^ m ∧ x / 2 ^ m ≤ 4294967295 := by
  have hp := two_pow_pos m
  exact ⟨Int.ediv_nonneg hx.1 (by omega), Int.le_trans (Int.ediv_le_self _ hx.1) hx.2⟩
theorem head_split (x : Int) {n w : Int} (h0 : 0 ≤ w) (hw : w ≤ n) : x % 2 ^ n.toNat / 2 ^ (n - w).toNat = x / 2 ^ (n - w).toNat % 2 ^ w.toNat := by
  have e : n.toNat = (n - w).toNat + w.toNat := by omega
  rw [e, Int.pow_add]
  have hp := two_pow_pos (n - w).toNat
  have hq := two_pow_pos w.toNat
  generalize (2 : Int) ^ (n - w).toNat = p at *
  generalize (2 : Int) ^ w.toNat = q at *
  rw [← Int.emod_emod_of_dvd (x / p) (Int.dvd_refl q)]
  have h1 := Int.mul_ediv_add_emod x p
  have h2 := Int.mul_ediv_add_emod (x / p) q
  have h3 := Int.emod_nonneg x (show p ≠ 0 by omega)
  have h4 := Int.emod_lt_of_pos x hp
  have h5 := Int.emod_nonneg (x / p) (show q ≠ 0 by omega)
  have h6 := Int.emod_lt_of_pos (x / p) hq
  have h7 : x = p * q * (x / p / q) + (p * (x / p % q) + x % p) := by
    have : p * (x / p) = p * (q * (x / p / q)) + p * (x / p % q) := by rw [← Int.mul_add, h2]
    rw [Int.mul_assoc]; omega
  have h8 : p * (x / p % q) + x % p < p * q := by
    have : p * (x / p % q + 1) ≤ p * q := Int.mul_le_mul_of_nonneg_left (by omega) (by omega)
    rw [Int.mul_add] at this; omega
  have h9 : 0 ≤ p * (x / p % q) := Int.mul_nonneg (by omega) h5
  have h10 : x % (p * q) = p * (x / p % q) + x % p := by
    conv => lhs; rw [h7]
    rw [Int.add_comm (p * q * _), Int.add_mul_emod_self_left]
    exact Int.emod_eq_of_lt (by omega) h8
  rw [h10, Int.add_comm, Int.add_mul_ediv_left _ _ (by omega), Int.ediv_eq_zero_of_lt h3 h4, Int.emod_emod]
  omega
theorem spec_head (x n w : Int) (hx : 0 ≤ x ∧ x ≤ 4294967295) (hn : 1 ≤ n ∧ n ≤ 32) (h0 : 0 ≤ w ∧ w ≤ 7) (hw : w ≤ n) :
    shr .i64 (Go.bits .and .i64 (wrap64 x) (wrap64 (shl .i64 1 (IntKind.u64.wrap n) - 1))) (IntKind.u64.wrap (wrap64 (n - w))) = x / 2 ^ (n - w).toNat % 2 ^ w.toNat := by
  rw [w64 (x := x) (by omega) (by omega), wu64 (x := n) (by omega) (by omega), shl1_i64 (by omega) (by omega), w64 (x := n - w) (by omega) (by omega), wu64 (x := n - w) (by omega) (by omega)]
  have := two_pow_le (a := n.toNat) (b := 32) (by omega)
  have := two_pow_pos n.toNat
  rw [w64 (by omega) (by omega), and_i64 (by omega) (by omega), shr_eq (by simp only [IntKind.bits]; omega), head_split x h0.1 hw]
theorem impl_head (x n w : Int) (hx : 0 ≤ x ∧ x ≤ 4294967295) (hn : 1 ≤ n ∧ n ≤ 32) (h0 : 0 ≤ w ∧ w ≤ 7) (hw : w ≤ n) :
    Go.bits .and .u32 (shr .u32 x (wrap64 (n - w))) ((shl .u32 1 w - 1) % 4294967296) = x / 2 ^ (n - w).toNat % 2 ^ w.toNat := by
  rw [shl1_u32 h0.1 (by omega), w64 (x := n - w) (by omega) (by omega), shr_eq (by simp only [IntKind.bits]; omega)]
  have := two_pow_le (a := w.toNat) (b := 7) (by omega)
  have := two_pow_pos w.toNat
  rw [show ((2 : Int) ^ w.toNat - 1) % 4294967296 = 2 ^ w.toNat - 1 by omega, and_u32 (div_range hx) (by omega)]
/-- A text out of its bytes. -/
def toB (l : List UInt8) : ByteArray := ⟨l.toArray⟩
theorem toB_data (l : List UInt8) : (toB l).data.toList = l := rfl
theorem toB_size (l : List UInt8) : (toB l).size = l.length := by show l.toArray.size = l.length; simp
theorem toB_self (s : ByteArray) : toB s.data.toList = s := ba_ext (toB_data _)
theorem size_eq (s : ByteArray) : s.size = s.data.toList.length := by rw [Array.length_toList]; rfl
theorem extract_eq (s : ByteArray) (a b : Nat) : s.extract a b = toB ((s.data.toList.take b).drop a) := by
  apply ba_ext
  rw [toB_data, ByteArray.data_extract, Array.toList_extract, List.extract_eq_take_drop, List.drop_take]
def blankB (b : UInt8) : Bool := b == 32 || b == 9 || b == 10
/-- The words of what is left, each with its place; the second: the word that is being read, with its place. -/
def spotsC : List UInt8 → Option (List UInt8 × Nat) → Nat → List (List UInt8 × Nat)
  | [], none, _ => []
  | [], some c, _ => [c]
  | b :: l, none, i => if blankB b then spotsC l none (i + 1) else spotsC l (some ([b], i)) (i + 1)
  | b :: l, some c, i => if blankB b then c :: spotsC l none (i + 1) else spotsC l (some (c.1 ++ [b], c.2)) (i + 1)
def spotsOf (l : List UInt8) : List (List UInt8 × Nat) := spotsC l none 0
theorem spotsC_length (l : List UInt8) : ∀ c i, (spotsC l c i).length ≤ l.length + (if c.isSome then 1 else 0) := by
  induction l with
  | nil => intro c i; cases c <;> simp [spotsC]
  | cons b l ih =>
    intro c i
    cases c with
    | none =>
      unfold spotsC
      split
      · have := ih none (i + 1); simp at this ⊢; omega
      · have := ih (some ([b], i)) (i + 1); simp at this ⊢; omega
    | some c =>
      unfold spotsC
      split
      · have := ih none (i + 1); simp at this ⊢; omega
      · have := ih (some (c.1 ++ [b], c.2)) (i + 1); simp at this ⊢; omega
theorem spotsOf_length (l : List UInt8) : (spotsOf l).length ≤ l.length := by
  have := spotsC_length l none 0
  simpa [spotsOf] using this
theorem blank_iff (b : UInt8) : blankB b = true ↔ ((b.toNat : Int) = 32 ∨ (b.toNat : Int) = 9 ∨ (b.toNat : Int) = 10) := by
  unfold blankB
  simp only [Bool.or_eq_true, beq_iff_eq, ← UInt8.toNat_inj]
  simp only [UInt8.reduceToNat]
  omega
theorem getB {s : ByteArray} {i : Nat} (h : i < s.size) : s[i] = s.data.toList[i]'(by rw [← size_eq]; exact h) := rfl
theorem drop_cons {s : ByteArray} {i : Nat} (h : i < s.size) : s.data.toList.drop i = s[i] :: s.data.toList.drop (i + 1) := by
  rw [List.drop_eq_getElem_cons (by rw [← size_eq]; exact h)]; rfl
theorem cut_snoc {s : ByteArray} {a i : Nat} (h : i < s.size) (ha : a ≤ i) : (s.data.toList.take (i + 1)).drop a = (s.data.toList.take i).drop a ++ [s[i]] := by
  rw [List.take_succ_eq_append_getElem (by rw [← size_eq]; exact h), List.drop_append_of_le_length (by rw [List.length_take, ← size_eq]; omega)]; rfl
/-- A letter's number, -1 where it is none. -/
def lo (b : UInt8) : Int := Lib.indexByte lettersB.data.toList b
/-- The letter of a number. -/
def letter (k : Int) : UInt8 := lettersB.data.toList.getD k.toNat 0
theorem all_bytes {P : UInt8 → Prop} (h : ∀ n : Fin 256, P (UInt8.ofNat n.val)) (b : UInt8) : P b := by
  have := h ⟨b.toNat, b.toNat_lt⟩
  simpa using this
theorem lo_range : ∀ b : UInt8, -1 ≤ lo b ∧ lo b ≤ 47 := all_bytes (by decide +kernel)
theorem letter_lo : ∀ b : UInt8, 0 ≤ lo b → letter (lo b) = b := all_bytes (by decide +kernel)
theorem lo_letter_nat : ∀ k : Fin 48, lo (letter (k.val : Int)) = k.val := by decide +kernel
theorem lo_letter {k : Int} (h0 : 0 ≤ k) (h1 : k ≤ 47) : lo (letter k) = k := by
  have := lo_letter_nat ⟨k.toNat, by omega⟩
  simp only at this
  rwa [Int.toNat_of_nonneg h0] at this
theorem bt_letter_nat : ∀ k : Fin 48, bt lettersB (k.val : Int) = ((letter (k.val : Int)).toNat : Int) := by decide +kernel
theorem bt_letter {k : Int} (h0 : 0 ≤ k) (h1 : k ≤ 47) : bt lettersB k = ((letter k).toNat : Int) := by
  have := bt_letter_nat ⟨k.toNat, by omega⟩
  simp only at this
  rwa [Int.toNat_of_nonneg h0] at this
def okName (l : List UInt8) : Bool := decide (1 ≤ l.length) && decide (l.length ≤ 24) && l.all (fun b => decide (1 ≤ lo b))
theorem okName_iff (l : List UInt8) : okName l = true ↔ (1 ≤ l.length ∧ l.length ≤ 24 ∧ ∀ b ∈ l, 1 ≤ lo b) := by
  unfold okName
  simp only [Bool.and_eq_true, decide_eq_true_eq, List.all_eq_true, and_assoc]
/-- The field of as many first letters as fit into what is left, and how many. -/
def one : List UInt8 → Int → Int × Nat
  | [], _ => (0, 0)
  | b :: t, left => if widthOf (lo b) > left then (0, 0) else (bitsOf (lo b) * 2 ^ (left - widthOf (lo b)).toNat + (one t (left - widthOf (lo b))).1, (one t (left - widthOf (lo b))).2 + 1)
def packF : Nat → List UInt8 → List Int
  | 0, _ => []
  | k + 1, l => if l = [] then [] else (one l 28).1 :: packF k (l.drop (one l 28).2)
def pack (l : List UInt8) : List Int := if okName l = true then packF l.length l else []
/-- The letters in the lowest bits of a field. -/
def upk (f : Int) : Nat → Int → List UInt8
  | 0, _ => []
  | d + 1, left => if f % 2 ^ left.toNat = 0 then [] else if (dcode f left).1 < 1 then [] else letter (dcode f left).1 :: upk f d (left - (dcode f left).2)
def unpackOne (f : Int) : List UInt8 := if f ≥ 268435456 then [] else upk f 8 28
def unpackAll (list : List Int) : List UInt8 := list.flatMap unpackOne
def unpack (list : List Int) : List UInt8 × Bool :=
  if list.length > 24 then ([], false) else if okName (unpackAll list) = true ∧ pack (unpackAll list) = list then (unpackAll list, true) else ([], false)
def fieldOk (f : Int) : Bool := decide (pack (unpackOne f) = [f])

theorem decFrom_range (x n : Int) (d : Nat) (hd : d ≤ 48) : -1 ≤ (decFrom x n d).1 ∧ (decFrom x n d).1 ≤ 47 ∧ 0 ≤ (decFrom x n d).2 ∧ (1 ≤ (decFrom x n d).1 → 4 ≤ (decFrom x n d).2 ∧ (decFrom x n d).2 ≤ 7 ∧ (decFrom x n d).2 ≤ n) := by
  induction d with
  | zero => simp [decFrom]
  | succ d ih =>
    unfold decFrom
    split
    · rename_i h
      have := width_in (k := 47 - (d : Int)) (by omega) (by omega)
      have := h.1
      simp only
      omega
    · exact ih (by omega)
theorem dcode_range (x n : Int) : -1 ≤ (dcode x n).1 ∧ (dcode x n).1 ≤ 47 ∧ 0 ≤ (dcode x n).2 ∧ (1 ≤ (dcode x n).1 → 4 ≤ (dcode x n).2 ∧ (dcode x n).2 ≤ 7 ∧ (dcode x n).2 ≤ n) := by
  unfold dcode
  split
  · exact decFrom_range x n 48 (by omega)
  · simp
theorem one_range (l : List UInt8) : ∀ left : Int, 0 ≤ left → left ≤ 28 → (∀ b ∈ l, 1 ≤ lo b) → 0 ≤ (one l left).1 ∧ (one l left).1 < 2 ^ left.toNat ∧ (one l left).2 ≤ l.length := by
  induction l with
  | nil => intro left h0 h1 hb; exact ⟨by simp [one], by simpa [one] using two_pow_pos left.toNat, by simp [one]⟩
  | cons b t ih =>
    intro left h0 h1 hb
    unfold one
    split
    · exact ⟨by simp, by simpa using two_pow_pos left.toNat, by simp⟩
    · rename_i hw
      have hl := lo_range b
      have h1' := hb b (List.mem_cons_self)
      have w := width_in (k := lo b) (by omega) (by omega)
      obtain ⟨i1, i2, i3⟩ := ih (left - widthOf (lo b)) (by omega) (by omega) (fun c hc => hb c (List.mem_cons_of_mem _ hc))
      have e : left.toNat = (widthOf (lo b)).toNat + (left - widthOf (lo b)).toNat := by omega
      have hp := two_pow_pos (left - widthOf (lo b)).toNat
      refine ⟨?_, ?_, by simp only [List.length_cons]; omega⟩
      · have := Int.mul_nonneg w.2.2.1 (show 0 ≤ (2 : Int) ^ (left - widthOf (lo b)).toNat by omega)
        simp only; omega
      · rw [e, Int.pow_add]
        have : (bitsOf (lo b) + 1) * 2 ^ (left - widthOf (lo b)).toNat ≤ 2 ^ (widthOf (lo b)).toNat * 2 ^ (left - widthOf (lo b)).toNat := Int.mul_le_mul_of_nonneg_right (by omega) (by omega)
        rw [Int.add_mul] at this
        simp only; omega
theorem one_pos {l : List UInt8} {left : Int} (hl : l ≠ []) (h : 7 ≤ left) : 1 ≤ (one l left).2 := by
  cases l with
  | nil => exact absurd rfl hl
  | cons b t =>
    unfold one
    have hb := lo_range b
    rw [if_neg ?_]
    · simp only; omega
    · rcases width_cases (lo b) with h | h | h | h <;> omega
theorem packF_fuel (l : List UInt8) : ∀ k, l.length ≤ k → packF k l = packF l.length l := by
  intro k
  induction k using Nat.strongRecOn generalizing l with
  | ind k ih =>
    intro hk
    cases hl : l with
    | nil => cases k <;> simp [packF]
    | cons b t =>
      cases k with
      | zero => rw [hl] at hk; simp at hk
      | succ k =>
        rw [List.length_cons, packF, packF, if_neg (by simp), if_neg (by simp)]
        have h1 := one_pos (l := b :: t) (left := 28) (by simp) (by omega)
        have e1 : ((b :: t).drop (one (b :: t) 28).2).length ≤ t.length := by rw [List.length_drop, List.length_cons]; omega
        have hk' : t.length ≤ k := by rw [hl, List.length_cons] at hk; omega
        rw [ih k (by omega) _ (by omega)]
        by_cases e : t.length = k
        · subst e; rw [ih t.length (by omega) _ e1]
        · rw [ih t.length (by omega) _ e1]
theorem packF_step {l : List UInt8} (h : l ≠ []) : packF l.length l = (one l 28).1 :: packF (l.drop (one l 28).2).length (l.drop (one l 28).2) := by
  cases hl : l with
  | nil => exact absurd hl h
  | cons b t =>
    rw [List.length_cons, packF, if_neg (by simp)]
    have h1 := one_pos (l := b :: t) (left := 28) (by simp) (by omega)
    rw [packF_fuel _ t.length (by rw [List.length_drop, List.length_cons]; omega)]
theorem strOf_map (l : List UInt8) : strOfNums (l.map (fun b => (b.toNat : Int))) = toB l := by
  unfold strOfNums toB
  simp [Function.comp_def]
theorem map_snoc (l : List UInt8) (b : UInt8) : l.map (fun b => (b.toNat : Int)) ++ [(b.toNat : Int)] = (l ++ [b]).map (fun b => (b.toNat : Int)) := by simp
theorem toB_append (a b : List UInt8) : toB a ++ toB b = toB (a ++ b) := by
  apply ba_ext
  simp [toB]
theorem upk_length (f : Int) (d : Nat) : ∀ left, (upk f d left).length ≤ d := by
  induction d with
  | zero => intro left; simp [upk]
  | succ d ih =>
    intro left
    unfold upk
    split
    · simp
    · split
      · simp
      · simp only [List.length_cons]; have := ih (left - (dcode f left).2); omega
theorem unpackOne_length (f : Int) : (unpackOne f).length ≤ 8 := by
  unfold unpackOne
  split
  · simp
  · exact upk_length f 8 28
theorem packF_length (k : Nat) : ∀ l, (packF k l).length ≤ k := by
  induction k with
  | zero => intro l; simp [packF]
  | succ k ih =>
    intro l
    unfold packF
    split
    · simp
    · simp only [List.length_cons]; have := ih (l.drop (one l 28).2); omega
theorem pack_length (l : List UInt8) : (pack l).length ≤ 24 := by
  unfold pack
  split
  · rename_i h
    have := packF_length l.length l
    have := ((okName_iff l).1 h).2.1
    omega
  · simp
structure It where
  kind : Int
  name : List UInt8
  n : Int
  hex : Bool
  raw : Int
  deriving DecidableEq
def tagOf (kind : Int) : Int := if kind = 1 then 1 else if kind = 2 then 3 else if kind = 3 then 4 else if kind = 4 then 9 else if kind = 5 then 10 else if kind = 6 then 11 else 0
def kindOf (tag : Int) : Int := if tag = 1 then 1 else if tag = 3 then 2 else if tag = 4 then 3 else if tag = 9 then 4 else if tag = 10 then 5 else if tag = 11 then 6 else 0
def word (tag : Int) : List Int → List Int
  | [] => []
  | f :: r => (f * 16 + tag) :: r.map (· * 16)
def bitOf (hex : Bool) : Int := if hex = true then 16 else 0
def numCells (n : Int) (hex : Bool) (short long : Int) : List Int :=
  if -67108864 ≤ n ∧ n ≤ 67108863 then [n % 134217728 * 32 + bitOf hex + short] else [bitOf hex + long, n % 4294967296]
def cellsOf (it : It) : List Int :=
  if it.kind = 0 then (if it.name = [] ∧ it.n = 0 ∧ it.hex = false then [it.raw] else [])
  else if it.kind = 7 then (if it.name = [] ∧ it.raw = 0 then numCells it.n it.hex 8 2 else [])
  else if it.kind = 8 then (if it.name = [] ∧ it.raw = 0 then numCells it.n it.hex 6 5 else [])
  else if it.kind = 9 then (if it.hex = false ∧ it.raw = 0 ∧ (pack it.name).length = 1 then word 12 (pack it.name) ++ [it.n % 4294967296] else [])
  else if 0 < tagOf it.kind ∧ it.n = 0 ∧ it.hex = false ∧ it.raw = 0 then word (tagOf it.kind) (pack it.name) else []
def rawIt (c : Int) : It := ⟨0, [], 0, false, c⟩
/-- The cells behind a word's first one that belong to it. -/
def tailOf (l : List Int) : List Int := l.takeWhile (fun c => decide (c % 16 = 0) && decide (c ≠ 0))
def hexOf (c : Int) : Bool := decide (c / 16 % 2 = 1)
/-- The item at the head of cells, and how many cells it has. -/
def parseOne (c : Int) (rest : List Int) : It × Nat :=
  if 0 < kindOf (c % 16) then
    (if (unpack (c / 16 :: (tailOf rest).map (· / 16))).2 = true then (⟨kindOf (c % 16), (unpack (c / 16 :: (tailOf rest).map (· / 16))).1, 0, false, 0⟩, (tailOf rest).length + 1) else (rawIt c, 1))
  else if c % 16 = 8 then (⟨7, [], wrap32 c / 32, hexOf c, 0⟩, 1)
  else if c % 16 = 6 then (⟨8, [], wrap32 c / 32, hexOf c, 0⟩, 1)
  else if c % 16 = 2 ∨ c % 16 = 5 then
    (match rest with
    | [] => (rawIt c, 1)
    | d :: _ => if c < 32 ∧ ¬ (-67108864 ≤ wrap32 d ∧ wrap32 d ≤ 67108863) then (⟨if c % 16 = 5 then 8 else 7, [], wrap32 d, hexOf c, 0⟩, 2) else (rawIt c, 1))
  else if c % 16 = 12 then
    (match rest with
    | [] => (rawIt c, 1)
    | d :: _ => if fieldOk (c / 16) = true then (⟨9, unpackOne (c / 16), wrap32 d, false, 0⟩, 2) else (rawIt c, 1))
  else (rawIt c, 1)
def parseF : Nat → List Int → List It
  | 0, _ => []
  | _, [] => []
  | k + 1, c :: rest => (parseOne c rest).1 :: parseF k ((c :: rest).drop (parseOne c rest).2)
theorem toB_nil_iff (l : List UInt8) : (toB l).toList = ([] : List UInt8) ↔ l = [] := by
  rw [ba_toList, toB_data]
theorem word_zero (l : List Int) : word 0 l = l.map (· * 16) := by
  cases l with
  | nil => rfl
  | cons f r => simp [word]
theorem word_length (t : Int) (l : List Int) : (word t l).length = l.length := by
  cases l with
  | nil => rfl
  | cons f r => simp [word]
theorem word_getElem (t : Int) (l : List Int) (i : Nat) (h : i < l.length) : (word t l)[i]'(by rw [word_length]; exact h) = if i = 0 then l[i] * 16 + t else l[i] * 16 := by
  cases l with
  | nil => simp at h
  | cons f r =>
    cases i with
    | zero => simp [word]
    | succ i => simp [word]
theorem set_mid {a b : List Int} {x v : Int} {i : Nat} (h : i = a.length) : (a ++ x :: b).set i v = a ++ v :: b := by
  subst h
  simp
theorem rd_mid {a b : List Int} {x : Int} {i : Nat} (h : i = a.length) : rd (a ++ x :: b) (i : Int) = x := by
  subst h
  simp [rd]
theorem tagOf_range (k : Int) : 0 ≤ tagOf k ∧ tagOf k ≤ 11 := by
  unfold tagOf
  repeat' split
  all_goals omega
theorem tagOf_pos {k : Int} (h : 0 < tagOf k) : 1 ≤ k ∧ k ≤ 6 := by
  unfold tagOf at h
  repeat' split at h
  all_goals omega
/-- Without the noughts at the end. -/
def trimR (l : List It) : List It := (l.reverse.dropWhile (fun it => decide (it = rawIt 0))).reverse
def parse (cells : List Int) : List It := if cells.length > 64 then [] else trimR (parseF cells.length cells)
def unparseFrom (out : List Int) : List It → List Int × Bool
  | [] => (out, true)
  | it :: l => if cellsOf it = [] ∨ out.length + (cellsOf it).length > 64 then ([], false) else unparseFrom (out ++ cellsOf it) l
def unparse (l : List It) : List Int × Bool := unparseFrom [] l
def listOk (l : List It) : Bool := (unparse l).2 && decide (parse (unparse l).1 = l)
theorem cellsOf_length (it : It) : (cellsOf it).length ≤ 25 := by
  have hp := pack_length it.name
  have hw := fun t => word_length t (pack it.name)
  unfold cellsOf numCells
  repeat' split
  all_goals simp [hw]
  all_goals omega
theorem div_div_pow (y : Int) (a b : Nat) : y / 2 ^ a / 2 ^ b = y / 2 ^ (a + b) := by
  rw [Int.ediv_ediv_of_nonneg (Int.le_of_lt (two_pow_pos a)), Int.pow_add]
theorem hit_top {x n k : Int} (h : hit x n k) (h0 : 0 ≤ widthOf k) : x % 2 ^ n.toNat / 2 ^ (n - widthOf k).toNat = bitsOf k := by
  rw [head_split x h0 h.1]; exact h.2
theorem hit_unique {x n k k' : Int} (h0 : 0 ≤ k ∧ k ≤ 47) (h0' : 0 ≤ k' ∧ k' ≤ 47) (h : hit x n k) (h' : hit x n k') : k = k' := by
  have key : ∀ {k k' : Int}, 0 ≤ k ∧ k ≤ 47 → 0 ≤ k' ∧ k' ≤ 47 → hit x n k → hit x n k' → widthOf k ≤ widthOf k' → k = k' := by
    intro k k' h0 h0' h h' hw
    have w := width_in h0.1 h0.2
    have w' := width_in h0'.1 h0'.2
    have t := hit_top h (by omega)
    have t' := hit_top h' (by omega)
    have hn := h'.1
    have e : (n - widthOf k).toNat = (n - widthOf k').toNat + (widthOf k' - widthOf k).toNat := by omega
    rw [e, ← div_div_pow, t'] at t
    rcases width_cases k with ⟨a, b, c⟩ | ⟨a, b, c⟩ | ⟨a, b, c⟩ | ⟨a, b, c⟩ <;> rcases width_cases k' with ⟨a', b', c'⟩ | ⟨a', b', c'⟩ | ⟨a', b', c'⟩ | ⟨a', b', c'⟩ <;> rw [a, b, a', b'] at t <;> simp at t <;> omega
  by_cases hw : widthOf k ≤ widthOf k'
  · exact key h0 h0' h h' hw
  · exact (key h0' h0 h' h (by omega)).symm
theorem decFrom_hit {x n k : Int} (h0 : 0 ≤ k ∧ k ≤ 47) (h : hit x n k) (d : Nat) (hd : d ≤ 48) (hk : 48 - (d : Int) ≤ k) : decFrom x n d = (k, widthOf k) := by
  induction d with
  | zero => omega
  | succ d ih =>
    unfold decFrom
    by_cases e : hit x n (47 - d)
    · rw [if_pos e, hit_unique (by omega) h0 e h]
    · rw [if_neg e]
      refine ih (by omega) ?_
      have : (47 - (d : Int)) ≠ k := fun e2 => e (e2 ▸ h)
      omega
theorem dcode_hit {x n k : Int} (h0 : 0 ≤ k ∧ k ≤ 47) (hn : 1 ≤ n ∧ n ≤ 32) (h : hit x n k) : dcode x n = (k, widthOf k) := by
  unfold dcode
  rw [if_pos hn]
  exact decFrom_hit h0 h 48 (by omega) (by omega)
/-- A code at the head, whatever stands behind. -/
theorem hit_code {k : Int} (h0 : 0 ≤ k ∧ k ≤ 47) (x n : Int) (j : Int) (hw : widthOf k ≤ n) (hx : x % 2 ^ n.toNat = bitsOf k * 2 ^ (n - widthOf k).toNat + j) (hj : 0 ≤ j ∧ j < 2 ^ (n - widthOf k).toNat) : hit x n k := by
  have w := width_in h0.1 h0.2
  refine ⟨hw, ?_⟩
  rw [← head_split x (by omega) hw, hx, Int.mul_comm, Int.add_comm, Int.add_mul_ediv_left _ _ (by have := two_pow_pos (n - widthOf k).toNat; omega), Int.ediv_eq_zero_of_lt hj.1 hj.2]
  omega
theorem upk_one (l : List UInt8) : ∀ (f : Int) (d : Nat) (left : Int), (∀ b ∈ l, 1 ≤ lo b) → 0 ≤ left → left ≤ 28 → left ≤ 4 * d → f % 2 ^ left.toNat = (one l left).1 → upk f d left = l.take (one l left).2 := by
  induction l with
  | nil =>
    intro f d left hb h0 h1 h2 hf
    simp only [one] at hf ⊢
    cases d with
    | zero => rfl
    | succ d => rw [upk, if_pos hf]; rfl
  | cons b t ih =>
    intro f d left hb h0 h1 h2 hf
    have hl := lo_range b
    have hb1 := hb b (List.mem_cons_self)
    have w := width_in (k := lo b) (by omega) (by omega)
    have hbt : ∀ c ∈ t, 1 ≤ lo c := fun c hc => hb c (List.mem_cons_of_mem _ hc)
    unfold one at hf ⊢
    by_cases hw : widthOf (lo b) > left
    · rw [if_pos hw] at hf ⊢
      cases d with
      | zero => rfl
      | succ d => rw [upk, if_pos hf]; rfl
    · rw [if_neg hw] at hf ⊢
      simp only at hf ⊢
      obtain ⟨r1, r2, r3⟩ := one_range t (left - widthOf (lo b)) (by omega) (by omega) hbt
      have hp := two_pow_pos (left - widthOf (lo b)).toNat
      have hpos : 1 ≤ bitsOf (lo b) := by rcases width_cases (lo b) with h | h | h | h <;> omega
      cases d with
      | zero => omega
      | succ d =>
        have hne : f % 2 ^ left.toNat ≠ 0 := by
          rw [hf]
          have := Int.mul_le_mul_of_nonneg_right hpos (show (0 : Int) ≤ 2 ^ (left - widthOf (lo b)).toNat by omega)
          omega
        have hh := dcode_hit (x := f) (n := left) (k := lo b) (by omega) (by omega) (hit_code (by omega) f left _ (by omega) hf ⟨r1, r2⟩)
        rw [upk, if_neg hne, hh]
        simp only
        rw [if_neg (by omega), letter_lo b (by omega), List.take_succ_cons]
        congr 1
        refine ih f d (left - widthOf (lo b)) hbt (by omega) (by omega) (by omega) ?_
        have e : left.toNat = (left - widthOf (lo b)).toNat + (widthOf (lo b)).toNat := by omega
        have h3 : f % 2 ^ left.toNat % 2 ^ (left - widthOf (lo b)).toNat = f % 2 ^ (left - widthOf (lo b)).toNat := by
          rw [e, Int.pow_add]; exact Int.emod_emod_of_dvd f (Int.dvd_mul_right _ _)
        rw [← h3, hf, Int.mul_comm, Int.add_comm, Int.add_mul_emod_self_left]
        exact Int.emod_eq_of_lt r1 r2
theorem unpackOne_one (l : List UInt8) (hb : ∀ b ∈ l, 1 ≤ lo b) : unpackOne (one l 28).1 = l.take (one l 28).2 := by
  have h := one_range l 28 (by omega) (by omega) hb
  have h2 : (one l 28).1 < 268435456 := h.2.1
  unfold unpackOne
  rw [if_neg (by omega)]
  refine upk_one l _ 8 28 hb (by omega) (by omega) (by omega) ?_
  exact Int.emod_eq_of_lt h.1 h.2.1
theorem unpackAll_packF (n : Nat) : ∀ l : List UInt8, l.length ≤ n → (∀ b ∈ l, 1 ≤ lo b) → unpackAll (packF l.length l) = l := by
  induction n with
  | zero =>
    intro l hl hb
    have : l = [] := List.eq_nil_of_length_eq_zero (by omega)
    subst this
    rfl
  | succ n ih =>
    intro l hl hb
    by_cases h : l = []
    · subst h; rfl
    · have h1 := one_pos h (left := 28) (by omega)
      rw [packF_step h]
      unfold unpackAll
      rw [List.flatMap_cons, unpackOne_one l hb]
      have := ih (l.drop (one l 28).2) (by rw [List.length_drop]; omega) (fun b hb' => hb b (List.mem_of_mem_drop hb'))
      unfold unpackAll at this
      rw [this, List.take_append_drop]
theorem unpack_pack {l : List UInt8} (h : okName l = true) : unpack (pack l) = (l, true) := by
  obtain ⟨h1, h2, h3⟩ := (okName_iff l).1 h
  have e : unpackAll (pack l) = l := by
    unfold pack; rw [if_pos h]; exact unpackAll_packF l.length l (by omega) h3
  unfold unpack
  rw [if_neg (by have := pack_length l; omega), e, if_pos ⟨h, rfl⟩]
theorem one_take (l : List UInt8) : ∀ left : Int, one (l.take (one l left).2) left = one l left := by
  induction l with
  | nil => intro left; rfl
  | cons b t ih =>
    intro left
    by_cases hw : widthOf (lo b) > left
    · have e : one (b :: t) left = (0, 0) := by rw [one, if_pos hw]
      rw [e]; rfl
    · have e : one (b :: t) left = (bitsOf (lo b) * 2 ^ (left - widthOf (lo b)).toNat + (one t (left - widthOf (lo b))).1, (one t (left - widthOf (lo b))).2 + 1) := by rw [one, if_neg hw]
      rw [e, List.take_succ_cons, one, if_neg hw, ih]
theorem fieldOk_one {l : List UInt8} (hne : l ≠ []) (hlen : l.length ≤ 24) (hb : ∀ b ∈ l, 1 ≤ lo b) : fieldOk (one l 28).1 = true := by
  have h1 := one_pos hne (left := 28) (by omega)
  have h2 := one_range l 28 (by omega) (by omega) hb
  unfold fieldOk
  rw [decide_eq_true_eq, unpackOne_one l hb]
  have hl : (l.take (one l 28).2).length = (one l 28).2 := by rw [List.length_take]; omega
  have hok : okName (l.take (one l 28).2) = true := (okName_iff _).2 ⟨by omega, by omega, fun b hb' => hb b (List.mem_of_mem_take hb')⟩
  unfold pack
  rw [if_pos hok, packF_step (by intro e; rw [e] at hl; simp at hl; omega), one_take, List.drop_of_length_le (by omega)]
  rfl
theorem packF_fieldOk (n : Nat) : ∀ l : List UInt8, l.length ≤ n → l.length ≤ 24 → (∀ b ∈ l, 1 ≤ lo b) → ∀ f ∈ packF l.length l, fieldOk f = true ∧ 0 ≤ f ∧ f < 268435456 := by
  induction n with
  | zero =>
    intro l hl h24 hb f hf
    have : l = [] := List.eq_nil_of_length_eq_zero (by omega)
    subst this
    simp [packF] at hf
  | succ n ih =>
    intro l hl h24 hb f hf
    by_cases h : l = []
    · subst h; simp [packF] at hf
    · have h1 := one_pos h (left := 28) (by omega)
      rw [packF_step h, List.mem_cons] at hf
      rcases hf with rfl | hf
      · have h2 := one_range l 28 (by omega) (by omega) hb
        exact ⟨fieldOk_one h h24 hb, h2.1, h2.2.1⟩
      · exact ih (l.drop (one l 28).2) (by rw [List.length_drop]; omega) (by rw [List.length_drop]; omega) (fun b hb' => hb b (List.mem_of_mem_drop hb')) f hf
theorem pack_fields {l : List UInt8} : ∀ f ∈ pack l, fieldOk f = true ∧ 0 ≤ f ∧ f < 268435456 := by
  intro f hf
  unfold pack at hf
  split at hf
  · rename_i h
    obtain ⟨h1, h2, h3⟩ := (okName_iff l).1 h
    exact packF_fieldOk l.length l (by omega) h2 h3 f hf
  · simp at hf
theorem pack_ne {l : List UInt8} (h : okName l = true) : 1 ≤ (pack l).length := by
  obtain ⟨h1, h2, h3⟩ := (okName_iff l).1 h
  unfold pack
  rw [if_pos h, packF_step (by intro e; subst e; simp at h1)]
  simp
theorem okName_of_pack {l : List UInt8} (h : pack l ≠ []) : okName l = true := by
  cases e : okName l with
  | true => rfl
  | false => exact absurd (by unfold pack; rw [e]; rfl) h
theorem and_255 (x : Int) : 0 ≤ Go.bits .and .i64 x 255 ∧ Go.bits .and .i64 x 255 ≤ 255 := by
  unfold Go.bits
  simp only
  have h : (BitVec.ofInt IntKind.i64.bits x &&& BitVec.ofInt IntKind.i64.bits 255).toNat ≤ 255 := by
    rw [BitVec.toNat_and]
    exact Nat.le_trans Nat.and_le_right (by decide)
  rw [IntKind.wrap_i64]
  omega
theorem tmod_range {x n : Int} (hx : 0 ≤ x) (hn : 0 < n) : 0 ≤ Int.tmod x n ∧ Int.tmod x n < n := by
  rw [Int.tmod_eq_emod_of_nonneg hx]
  exact ⟨Int.emod_nonneg x (by omega), Int.emod_lt_of_pos x hn⟩
/-- A cursor over bytes. -/
def Cur (b : List Int) (i : Int) : Prop := b.length ≤ 1048576 ∧ 0 ≤ i ∧ i ≤ b.length
theorem rdOf_mem {α : Type} {d : α} {xs : List α} {i : Int} (h0 : 0 ≤ i) (h1 : i < xs.length) : rdOf d xs i ∈ xs := by
  unfold rdOf
  rw [List.getD_eq_getElem?_getD, List.getElem?_eq_getElem (by omega : i.toNat < xs.length)]
  exact List.getElem_mem _
theorem rd_mem {xs : List Int} {i : Int} (h0 : 0 ≤ i) (h1 : i < xs.length) : rd xs i ∈ xs := by
  rw [rd_at h0 h1]; exact List.getElem_mem _
theorem w32_range (x : Int) : -2147483648 ≤ wrap32 x ∧ wrap32 x ≤ 2147483647 := by
  unfold wrap32; omega
theorem word_range (t : Int) (ht : 0 ≤ t ∧ t ≤ 15) (l : List Int) (hl : ∀ f ∈ l, 0 ≤ f ∧ f < 268435456) : ∀ x ∈ word t l, 0 ≤ x ∧ x ≤ 4294967295 := by
  cases l with
  | nil => intro x hx; simp [word] at hx
  | cons f r =>
    intro x hx
    rw [word, List.mem_cons] at hx
    rcases hx with hx | hx
    · have := hl f List.mem_cons_self
      omega
    · obtain ⟨y, hy, rfl⟩ := List.mem_map.1 hx
      have := hl y (List.mem_cons_of_mem _ hy)
      omega
theorem bitOf_range (h : Bool) : 0 ≤ bitOf h ∧ bitOf h ≤ 16 := by
  unfold bitOf; split <;> omega
theorem numCells_range (n : Int) (hex : Bool) (s l : Int) (hs : 0 ≤ s ∧ s ≤ 15) (hl : 0 ≤ l ∧ l ≤ 15) : ∀ x ∈ numCells n hex s l, 0 ≤ x ∧ x ≤ 4294967295 := by
  have hb := bitOf_range hex
  have hb2 : bitOf hex = 0 ∨ bitOf hex = 16 := by unfold bitOf; split <;> omega
  unfold numCells
  split
  · intro x hx
    rw [List.mem_singleton] at hx
    omega
  · intro x hx
    rw [List.mem_cons, List.mem_singleton] at hx
    omega
theorem cellsOf_range (it : It) (hr : 0 ≤ it.raw ∧ it.raw ≤ 4294967295) : ∀ x ∈ cellsOf it, 0 ≤ x ∧ x ≤ 4294967295 := by
  have hp : ∀ f ∈ pack it.name, 0 ≤ f ∧ f < 268435456 := fun f hf => (pack_fields f hf).2
  have ht := tagOf_range it.kind
  have hw := fun t h => word_range t h (pack it.name) hp
  have h12 := hw 12 (by omega)
  have htag := hw (tagOf it.kind) (by omega)
  have hn1 := numCells_range it.n it.hex 8 2 (by omega) (by omega)
  have hn2 := numCells_range it.n it.hex 6 5 (by omega) (by omega)
  unfold cellsOf
  intro x hx
  repeat' split at hx
  all_goals first
    | exact hn1 x hx
    | exact hn2 x hx
    | exact htag x hx
    | (rcases List.mem_append.1 hx with hx | hx <;> first | exact h12 x hx | (rw [List.mem_singleton] at hx; omega))
    | (rw [List.mem_singleton] at hx; omega)
    | (simp at hx)
theorem unparseFrom_length (l : List It) : ∀ out : List Int, out.length ≤ 64 → (unparseFrom out l).1.length ≤ 64 := by
  induction l with
  | nil => intro out h; exact h
  | cons it l ih =>
    intro out h
    rw [unparseFrom]
    split
    · simp
    · rename_i hn
      refine ih _ ?_
      rw [List.length_append]
      have := not_or.1 hn
      omega
theorem unparse_length (l : List It) : (unparse l).1.length ≤ 64 := unparseFrom_length l [] (by simp)
/-- The digits, none for nought. -/
def decL (u : Nat) : List UInt8 := if u = 0 then [] else Lib.decDigits u
theorem decL_step (u : Nat) (h : u ≠ 0) : decL u = decL (u / 10) ++ [UInt8.ofNat (48 + u % 10)] := by
  unfold decL
  rw [if_neg h, Lib.decDigits]
  by_cases h1 : u < 10
  · rw [dif_pos h1, if_pos (by omega), Nat.mod_eq_of_lt h1]; rfl
  · rw [dif_neg h1, if_neg (by omega)]
theorem itoa_decL (n : Int) (h : n ≠ 0) : Lib.itoa n = (if n < 0 then [45] else []) ++ decL n.natAbs := by
  unfold Lib.itoa decL
  rw [if_neg (show ¬ n.natAbs = 0 by omega)]
  split
  · rfl
  · rw [show n.toNat = n.natAbs by omega]; rfl
theorem dec_cut (d : Nat) (h : d < 10) : (⟨#[48, 49, 50, 51, 52, 53, 54, 55, 56, 57]⟩ : ByteArray).extract d (d + 1) = toB [UInt8.ofNat (48 + d)] := by
  rw [extract_eq]
  apply congrArg toB
  match d, h with
  | 0, _ => rfl
  | 1, _ => rfl
  | 2, _ => rfl
  | 3, _ => rfl
  | 4, _ => rfl
  | 5, _ => rfl
  | 6, _ => rfl
  | 7, _ => rfl
  | 8, _ => rfl
  | 9, _ => rfl
  | n + 10, h => omega
theorem tmod_pos (u : Nat) : Int.tmod (u : Int) 10 = ((u % 10 : Nat) : Int) := rfl
theorem tdiv_pos (u : Nat) : Int.tdiv (u : Int) 10 = ((u / 10 : Nat) : Int) := rfl
theorem tmod_neg (u : Nat) : Int.tmod (-(u : Int)) 10 = -((u % 10 : Nat) : Int) := by rw [Int.neg_tmod, tmod_pos]
theorem tdiv_neg (u : Nat) : Int.tdiv (-(u : Int)) 10 = -((u / 10 : Nat) : Int) := by rw [Int.neg_tdiv, tdiv_pos]
theorem toB_append' (a b : List UInt8) : toB a ++ toB b = toB (a ++ b) := by
  apply ba_ext
  rw [ByteArray.data_append, Array.toList_append]; rfl
/-- The sum of cells, from h on. -/
def sumFrom (h : Int) : List Int → Int
  | [] => h
  | x :: l => sumFrom ((Go.bits .xor .u32 h x * 16777619) % 4294967296) l
def sumOf (l : List Int) : Int := sumFrom 2166136261 l
/-- What the law writes into d cells, from m on. -/
def marksU (m : Int) : Nat → List Int
  | 0 => []
  | d + 1 => m % 4294967296 :: marksU (m + 1) d
theorem marksU_length (d : Nat) : ∀ m, (marksU m d).length = d := by
  induction d with
  | zero => intro m; rfl
  | succ d ih => intro m; simp [marksU, ih]
/-- A store of n blocks, or none. -/
def newStore (n : Int) : List Int := if 0 ≤ n ∧ n ≤ 12 then List.replicate (n * 64).toNat 0 else []
theorem newStore_length (n : Int) : (newStore n).length ≤ 768 := by
  unfold newStore; split <;> simp; omega
def hasBlock (l : List Int) (b : Int) : Prop := ((l.length : Int) % 64 = 0 ∧ (l.length : Int) ≤ 768) ∧ 0 ≤ b ∧ b < (l.length : Int) / 64
instance (l : List Int) (b : Int) : Decidable (hasBlock l b) := by unfold hasBlock; infer_instance
def blockAt (l : List Int) (b : Int) : List Int := (l.take ((b + 1) * 64).toNat).drop (b * 64).toNat
def blockOf (l : List Int) (b : Int) : List Int × Bool := if hasBlock l b then (blockAt l b, true) else ([], false)
theorem blockAt_length {l : List Int} {b : Int} (h : hasBlock l b) : (blockAt l b).length = 64 := by
  obtain ⟨⟨h1, h2⟩, h3, h4⟩ := h
  unfold blockAt
  rw [List.length_drop, List.length_take]
  omega
theorem blockOf_length (l : List Int) (b : Int) : (blockOf l b).1.length ≤ 64 := by
  unfold blockOf
  split
  · rename_i h; rw [blockAt_length h]; omega
  · simp
def four (c : Int) : List Int := [c % 256, c / 256 % 256, c / 65536 % 256, c / 16777216 % 256]
def bytesFrom : List Int → List Int
  | [] => []
  | c :: l => four c ++ bytesFrom l
def imageOf (l : List Int) : List Int := if (l.length : Int) % 64 = 0 ∧ (l.length : Int) ≤ 768 then [(l.length : Int) / 64 % 256] ++ bytesFrom (l ++ [sumOf l]) else []
theorem bytesFrom_length (l : List Int) : (bytesFrom l).length = 4 * l.length := by
  induction l with
  | nil => rfl
  | cons c l ih => simp [bytesFrom, four, ih]; omega
theorem bytesFrom_append (a b : List Int) : bytesFrom (a ++ b) = bytesFrom a ++ bytesFrom b := by
  induction a with
  | nil => rfl
  | cons c l ih => simp [bytesFrom, ih]
theorem imageOf_length (l : List Int) : (imageOf l).length ≤ 3077 := by
  unfold imageOf
  split
  · rw [List.length_append, bytesFrom_length]; simp; omega
  · simp
theorem sumFrom_range (l : List Int) : ∀ h : Int, 0 ≤ h ∧ h ≤ 4294967295 → 0 ≤ sumFrom h l ∧ sumFrom h l ≤ 4294967295 := by
  induction l with
  | nil => intro h hh; exact hh
  | cons c l ih => intro h hh; exact ih _ (by omega)
theorem sumOf_range (l : List Int) : 0 ≤ sumOf l ∧ sumOf l ≤ 4294967295 := sumFrom_range l _ (by omega)
/-- What the law writes into d bytes, from m on. -/
def marksB (m : Int) : Nat → List Int
  | 0 => []
  | d + 1 => m % 256 :: marksB (m + 1) d
theorem marksB_length (d : Nat) : ∀ m, (marksB m d).length = d := by
  induction d with
  | zero => intro m; rfl
  | succ d ih => intro m; simp [marksB, ih]
/-- 64 cells: those given, and noughts behind them. -/
def fill (cs : List Int) : List Int := cs ++ List.replicate (64 - cs.length) 0
def putCells (l : List Int) (o : Nat) (cs : List Int) : List Int := l.take o ++ (fill cs ++ l.drop (o + 64))
def putBlock (l : List Int) (b : Int) (cs : List Int) : List Int × Bool := if hasBlock l b ∧ cs.length ≤ 64 then (putCells l (b * 64).toNat cs, true) else ([], false)
theorem fill_length {cs : List Int} (h : cs.length ≤ 64) : (fill cs).length = 64 := by
  unfold fill; rw [List.length_append, List.length_replicate]; omega
theorem putCells_length {l cs : List Int} {o : Nat} (h : cs.length ≤ 64) (ho : o + 64 ≤ l.length) : (putCells l o cs).length = l.length := by
  unfold putCells
  rw [List.length_append, List.length_append, List.length_take, List.length_drop, fill_length h]
  omega
theorem hasBlock_room {l : List Int} {b : Int} (h : hasBlock l b) : 0 ≤ b ∧ (b + 1) * 64 ≤ (l.length : Int) ∧ l.length ≤ 768 := by
  obtain ⟨⟨h1, h2⟩, h3, h4⟩ := h
  omega
theorem putBlock_length {l : List Int} {b : Int} {cs : List Int} (hl : l.length ≤ 1048576) : (putBlock l b cs).1.length ≤ 1048576 := by
  unfold putBlock
  split
  · rename_i h
    have := hasBlock_room h.1
    rw [putCells_length h.2 (by omega)]
    exact hl
  · simp
theorem put_splice {l cs : List Int} {o : Nat} (h : cs.length ≤ 64) (ho : o + 64 ≤ l.length) : splice (splice l o (List.replicate 64 0)) o cs = putCells l o cs := by
  unfold splice putCells fill
  have h1 : (l.take o).length = o := by rw [List.length_take]; omega
  rw [List.length_replicate, List.take_left' h1, ← List.drop_drop, List.drop_left' h1, List.drop_append_of_le_length (by rw [List.length_replicate]; exact h), List.drop_replicate, List.append_assoc]
theorem mid_set {l v : List Int} {o i : Nat} (y : Int) (hi : i < 64) (hv : v.length = 64) (ho : o + 64 ≤ l.length) : (l.take o ++ (v.take i ++ l.drop (o + i))).set (o + i) y = l.take o ++ ((v.take i ++ [y]) ++ l.drop (o + (i + 1))) := by
  have h1 : (l.take o ++ v.take i).length = o + i := by rw [List.length_append, List.length_take, List.length_take]; omega
  rw [← List.append_assoc, List.drop_eq_getElem_cons (by omega : o + i < l.length), List.set_append_right _ _ (by omega), h1, Nat.sub_self, List.set_cons_zero, show o + (i + 1) = o + i + 1 by omega]
  simp
theorem fill_at {cs : List Int} {i : Nat} (h : cs.length ≤ 64) (hi : i < 64) : (fill cs)[i]'(by rw [fill_length h]; exact hi) = if hc : i < cs.length then cs[i] else 0 := by
  unfold fill
  split
  · rename_i hc; rw [List.getElem_append_left hc]
  · rename_i hc; rw [List.getElem_append_right (by omega)]; simp
def copyBlock (l : List Int) (a b : Int) : List Int × Bool := if hasBlock l a then putBlock l b (blockAt l a) else ([], false)
theorem copyBlock_length {l : List Int} {a b : Int} (hl : l.length ≤ 1048576) : (copyBlock l a b).1.length ≤ 1048576 := by
  unfold copyBlock
  split
  · exact putBlock_length hl
  · simp
def tup (it : It) : Int × ByteArray × Int × Bool × Int := (it.kind, toB it.name, it.n, it.hex, it.raw)
theorem and_15 {x : Int} (hx : 0 ≤ x ∧ x ≤ 4294967295) : Go.bits .and .u32 x 15 = x % 16 := and_u32 (i := 4) hx (by omega)
theorem and_16 {x : Int} (hx : 0 ≤ x ∧ x ≤ 4294967295) : (Go.bits .and .u32 x 16 != 0) = hexOf x := by
  obtain ⟨a, rfl⟩ := Int.eq_ofNat_of_zero_le hx.1
  have e := (bits_nat .u32 32 (by decide) (fun n h0 h1 => by rw [IntKind.wrap_u32]; omega) a 16 (by omega) (by decide)).1
  have e2 : Go.bits .and .u32 (a : Int) 16 = ((a &&& 16 : Nat) : Int) := e
  have hb : ∀ j : Nat, (a &&& 16).testBit j = (decide (4 = j) && decide (a / 16 % 2 = 1)) := by
    intro j
    rw [Nat.testBit_and, show (16 : Nat) = 2 ^ 4 from rfl, Nat.testBit_two_pow]
    by_cases hj : 4 = j
    · subst hj
      rw [Nat.testBit_eq_decide_div_mod_eq, Bool.and_comm]
    · rw [decide_eq_false hj, Bool.and_false, Bool.false_and]
  rw [e2]
  unfold hexOf
  by_cases h : a / 16 % 2 = 1
  · have e3 : a &&& 16 = 16 := by
      apply Nat.eq_of_testBit_eq
      intro j
      rw [hb, decide_eq_true h, Bool.and_true, show (16 : Nat) = 2 ^ 4 from rfl, Nat.testBit_two_pow]
    rw [e3, decide_eq_true (by omega)]
    rfl
  · have e3 : a &&& 16 = 0 := by
      apply Nat.eq_of_testBit_eq
      intro j
      rw [hb, decide_eq_false h, Bool.and_false, Nat.zero_testBit]
    rw [e3, decide_eq_false (by omega)]
    rfl
theorem kindOf_tagOf (i : Nat) (h1 : 1 ≤ i) (h6 : i ≤ 6) : kindOf (tagOf (i : Int)) = (i : Int) := by
  have : i = 1 ∨ i = 2 ∨ i = 3 ∨ i = 4 ∨ i = 5 ∨ i = 6 := by omega
  rcases this with h | h | h | h | h | h <;> subst h <;> decide
theorem kindOf_none {t : Int} (h : ∀ j : Nat, 1 ≤ j → j < 7 → tagOf (j : Int) ≠ t) : kindOf t = 0 := by
  unfold kindOf
  repeat' split
  · rename_i e; exact absurd e.symm (h 1 (by omega) (by omega))
  · rename_i e; exact absurd e.symm (h 2 (by omega) (by omega))
  · rename_i e; exact absurd e.symm (h 3 (by omega) (by omega))
  · rename_i e; exact absurd e.symm (h 4 (by omega) (by omega))
  · rename_i e; exact absurd e.symm (h 5 (by omega) (by omega))
  · rename_i e; exact absurd e.symm (h 6 (by omega) (by omega))
  · rfl
theorem kindOf_cases (t : Int) : (kindOf t = 0 ∧ t ≠ 1 ∧ t ≠ 3 ∧ t ≠ 4 ∧ t ≠ 9 ∧ t ≠ 10 ∧ t ≠ 11) ∨ (1 ≤ kindOf t ∧ kindOf t ≤ 6 ∧ tagOf (kindOf t) = t ∧ (t = 1 ∨ t = 3 ∨ t = 4 ∨ t = 9 ∨ t = 10 ∨ t = 11)) := by
  unfold kindOf
  split
  · rename_i h; subst h; exact .inr ⟨by decide, by decide, by decide, by omega⟩
  split
  · rename_i h; subst h; exact .inr ⟨by decide, by decide, by decide, by omega⟩
  split
  · rename_i h; subst h; exact .inr ⟨by decide, by decide, by decide, by omega⟩
  split
  · rename_i h; subst h; exact .inr ⟨by decide, by decide, by decide, by omega⟩
  split
  · rename_i h; subst h; exact .inr ⟨by decide, by decide, by decide, by omega⟩
  split
  · rename_i h; subst h; exact .inr ⟨by decide, by decide, by decide, by omega⟩
  · exact .inl ⟨rfl, by omega, by omega, by omega, by omega, by omega, by omega⟩
theorem unpack_true {l : List Int} (h : (unpack l).2 = true) : okName (unpack l).1 = true ∧ pack (unpack l).1 = l := by
  unfold unpack at h ⊢
  split at h
  · cases h
  · rename_i h1
    split at h
    · rename_i h2
      rw [if_neg h1, if_pos h2]
      exact h2
    · cases h
theorem tail_nil : tailOf [] = [] := rfl
theorem tail_yes {d : Int} {l : List Int} (h : d % 16 = 0) (h0 : d ≠ 0) : tailOf (d :: l) = d :: tailOf l := by
  unfold tailOf
  rw [List.takeWhile_cons, if_pos (by simp [h, h0])]
theorem tail_no {d : Int} {l : List Int} (h : ¬ (d % 16 = 0 ∧ d ≠ 0)) : tailOf (d :: l) = [] := by
  unfold tailOf
  rw [List.takeWhile_cons, if_neg (by simpa using h)]
theorem tail_zeros (l : List Int) (k : Nat) : tailOf (l ++ List.replicate k 0) = tailOf l := by
  induction l with
  | nil => cases k with
    | zero => rfl
    | succ k => exact tail_no (by simp)
  | cons d l ih =>
    by_cases h : d % 16 = 0 ∧ d ≠ 0
    · rw [List.cons_append, tail_yes h.1 h.2, tail_yes h.1 h.2, ih]
    · rw [List.cons_append, tail_no h, tail_no h]
theorem tail_split (l : List Int) : ∃ r, l = tailOf l ++ r := ⟨_, (List.takeWhile_append_dropWhile (p := fun c => decide (c % 16 = 0) && decide (c ≠ 0)) (l := l)).symm⟩
theorem tail_mod {l : List Int} {x : Int} (h : x ∈ tailOf l) : x % 16 = 0 := by
  induction l with
  | nil => simp [tailOf] at h
  | cons d l ih =>
    by_cases hd : d % 16 = 0 ∧ d ≠ 0
    · rw [tail_yes hd.1 hd.2, List.mem_cons] at h
      rcases h with h | h
      · rw [h]; exact hd.1
      · exact ih h
    · rw [tail_no hd] at h; simp at h
theorem tail_mem {l : List Int} {x : Int} (h : x ∈ tailOf l) : x ∈ l ∧ x % 16 = 0 := by
  obtain ⟨r, e⟩ := tail_split l
  exact ⟨by rw [e]; exact List.mem_append_left _ h, tail_mod h⟩
theorem raw_cells (c : Int) : cellsOf (rawIt c) = [c] := by
  unfold rawIt cellsOf
  rw [if_pos rfl, if_pos ⟨rfl, rfl, rfl⟩]
theorem long_cells {c d : Int} (hc : 0 ≤ c ∧ c ≤ 4294967295) (hd : 0 ≤ d ∧ d ≤ 4294967295) (s : Int) (t : Int) (ht : c % 16 = t) (h : c < 32 ∧ ¬ (-67108864 ≤ wrap32 d ∧ wrap32 d ≤ 67108863)) : numCells (wrap32 d) (hexOf c) s t = [c, d] := by
  have e1 : bitOf (hexOf c) + t = c := by
    unfold bitOf hexOf
    by_cases hx : c / 16 % 2 = 1
    · rw [decide_eq_true hx, if_pos rfl]; omega
    · rw [decide_eq_false hx, if_neg (by simp)]; omega
  have e2 : wrap32 d % 4294967296 = d := by unfold wrap32; omega
  unfold numCells
  rw [if_neg h.2, e1, e2]
theorem long_cells_not {c d : Int} (s : Int) (t : Int) (ht : c % 16 = t) (h : ¬ (c < 32 ∧ ¬ (-67108864 ≤ wrap32 d ∧ wrap32 d ≤ 67108863))) : numCells (wrap32 d) (hexOf c) s t ≠ [c, d] := by
  unfold numCells
  split
  · simp
  · rename_i hn
    intro e
    injection e with e1 _
    apply h
    refine ⟨?_, hn⟩
    unfold bitOf hexOf at e1
    by_cases hx : c / 16 % 2 = 1
    · rw [decide_eq_true hx, if_pos rfl] at e1; omega
    · rw [decide_eq_false hx, if_neg (by simp)] at e1; omega
theorem short_cells {c : Int} (hc : 0 ≤ c ∧ c ≤ 4294967295) (s t : Int) (hs : c % 16 = s) : numCells (wrap32 c / 32) (hexOf c) s t = [c] := by
  unfold numCells
  rw [if_pos (by unfold wrap32; omega)]
  congr 1
  unfold bitOf hexOf
  by_cases hx : c / 16 % 2 = 1
  · rw [decide_eq_true hx, if_pos rfl]; unfold wrap32; omega
  · rw [decide_eq_false hx, if_neg (by simp)]; unfold wrap32; omega
theorem cells_one (c : Int) (rest : List Int) (hc : 0 ≤ c ∧ c ≤ 4294967295) (hr : ∀ x ∈ rest, 0 ≤ x ∧ x ≤ 4294967295) :
    cellsOf (parseOne c rest).1 = (c :: rest).take (parseOne c rest).2 ∧ 1 ≤ (parseOne c rest).2 ∧ (parseOne c rest).2 ≤ rest.length + 1 := by
  have raw : cellsOf (rawIt c, 1).1 = (c :: rest).take (rawIt c, 1).2 ∧ 1 ≤ (rawIt c, 1).2 ∧ (rawIt c, 1).2 ≤ rest.length + 1 := ⟨raw_cells c, Nat.le_refl _, by simp⟩
  unfold parseOne
  rcases kindOf_cases (c % 16) with hk | hk
  · rw [if_neg (by omega)]
    by_cases h8 : c % 16 = 8
    · rw [if_pos h8]
      refine ⟨?_, Nat.le_refl _, by simp⟩
      unfold cellsOf
      rw [if_neg (by simp), if_pos rfl, if_pos ⟨rfl, rfl⟩, short_cells hc 8 2 h8]
      rfl
    rw [if_neg h8]
    by_cases h6 : c % 16 = 6
    · rw [if_pos h6]
      refine ⟨?_, Nat.le_refl _, by simp⟩
      unfold cellsOf
      rw [if_neg (by simp), if_neg (by simp), if_pos rfl, if_pos ⟨rfl, rfl⟩, short_cells hc 6 5 h6]
      rfl
    rw [if_neg h6]
    by_cases h25 : c % 16 = 2 ∨ c % 16 = 5
    · rw [if_pos h25]
      cases rest with
      | nil => exact raw
      | cons d r =>
        have hd := hr d (by simp)
        simp only
        by_cases hl : c < 32 ∧ ¬ (-67108864 ≤ wrap32 d ∧ wrap32 d ≤ 67108863)
        · rw [if_pos hl]
          refine ⟨?_, by simp, by simp⟩
          unfold cellsOf
          rcases h25 with h2 | h5
          · rw [if_neg (show ¬ c % 16 = 5 by omega), if_neg (by simp), if_pos rfl, if_pos ⟨rfl, rfl⟩, long_cells hc hd 8 2 h2 hl]
            rfl
          · rw [if_pos h5, if_neg (by simp), if_neg (by simp), if_pos rfl, if_pos ⟨rfl, rfl⟩, long_cells hc hd 6 5 h5 hl]
            rfl
        · rw [if_neg hl]; exact raw
    rw [if_neg h25]
    by_cases h12 : c % 16 = 12
    · rw [if_pos h12]
      cases rest with
      | nil => exact raw
      | cons d r =>
        have hd := hr d (by simp)
        simp only
        by_cases hf : fieldOk (c / 16) = true
        · rw [if_pos hf]
          have hp : pack (unpackOne (c / 16)) = [c / 16] := of_decide_eq_true hf
          refine ⟨?_, by simp, by simp⟩
          unfold cellsOf
          rw [if_neg (by simp), if_neg (by simp), if_neg (by simp), if_pos rfl, if_pos ⟨rfl, rfl, by show (pack (unpackOne (c / 16))).length = 1; rw [hp]; rfl⟩]
          show word 12 (pack (unpackOne (c / 16))) ++ [wrap32 d % 4294967296] = _
          rw [hp]
          have e2 : wrap32 d % 4294967296 = d := by unfold wrap32; omega
          rw [e2]
          simp only [word, List.map_nil, List.cons_append, List.nil_append, List.take_succ_cons, List.take_zero]
          rw [show c / 16 * 16 + 12 = c by omega]
        · rw [if_neg hf]; exact raw
    · rw [if_neg h12]; exact raw
  · rw [if_pos (by omega)]
    by_cases hu : (unpack (c / 16 :: (tailOf rest).map (· / 16))).2 = true
    · rw [if_pos hu]
      obtain ⟨_, hp⟩ := unpack_true hu
      obtain ⟨r, e⟩ := tail_split rest
      have hlen : rest.length = (tailOf rest).length + r.length := by conv => lhs; rw [e]; rw [List.length_append]
      refine ⟨?_, by simp, by simp only; omega⟩
      unfold cellsOf
      rw [if_neg (show ¬ kindOf (c % 16) = 0 by omega), if_neg (show ¬ kindOf (c % 16) = 7 by omega), if_neg (show ¬ kindOf (c % 16) = 8 by omega), if_neg (show ¬ kindOf (c % 16) = 9 by omega), if_pos ⟨show 0 < tagOf (kindOf (c % 16)) by omega, rfl, rfl, rfl⟩]
      show word (tagOf (kindOf (c % 16))) (pack (unpack (c / 16 :: (tailOf rest).map (· / 16))).1) = _
      rw [hp, hk.2.2.1, word, List.take_succ_cons]
      rw [show c / 16 * 16 + c % 16 = c by omega]
      congr 1
      have e3 : rest.take (tailOf rest).length = tailOf rest := by
        conv => lhs; rw [e]
        rw [List.take_left' (by rw [← e])]
      rw [e3, List.map_map]
      refine (List.map_congr_left (g := id) fun x hx => ?_).trans (List.map_id _)
      have := (tail_mem hx).2
      simp only [Function.comp_apply, id]
      omega
    · rw [if_neg hu]; exact raw
/-- Noughts behind cells change no item that has its cells ahead of them. -/
theorem one_zeros (c : Int) (rest : List Int) (k : Nat) (h : (parseOne c (rest ++ List.replicate k 0)).2 ≤ rest.length + 1) : parseOne c rest = parseOne c (rest ++ List.replicate k 0) := by
  cases rest with
  | cons d r =>
    unfold parseOne
    rw [tail_zeros]
    rfl
  | nil =>
    cases k with
    | zero => rfl
    | succ k =>
      revert h
      unfold parseOne
      rw [tail_zeros]
      split
      · intro _; rfl
      split
      · intro _; rfl
      split
      · intro _; rfl
      split
      · simp only [List.nil_append, List.replicate_succ]
        split
        · intro h; simp at h
        · intro _; rfl
      split
      · simp only [List.nil_append, List.replicate_succ]
        split
        · intro h; simp at h
        · intro _; rfl
      · intro _; rfl
theorem drop_mem {l : List Int} {P : Int → Prop} (h : ∀ x ∈ l, P x) (n : Nat) : ∀ x ∈ l.drop n, P x := fun x hx => h x (List.mem_of_mem_drop hx)
theorem one_small (c : Int) (rest : List Int) : (-2147483648 ≤ (parseOne c rest).1.n ∧ (parseOne c rest).1.n ≤ 2147483647) ∧ (parseOne c rest).1.name.length ≤ 1048576 := by
  have raw : (-2147483648 ≤ (rawIt c, 1).1.n ∧ (rawIt c, 1).1.n ≤ 2147483647) ∧ (rawIt c, 1).1.name.length ≤ 1048576 := ⟨⟨by simp [rawIt], by simp [rawIt]⟩, by simp [rawIt]⟩
  have hw := fun x => w32_range x
  have hc := hw c
  unfold parseOne
  repeat' split
  all_goals first
    | exact raw
    | skip
  · rename_i hu
    have := ((okName_iff _).1 (unpack_true hu).1).2.1
    exact ⟨⟨by simp, by simp⟩, by simp only; omega⟩
  · exact ⟨by simp only; omega, by simp⟩
  · exact ⟨by simp only; omega, by simp⟩
  · exact ⟨hw _, by simp⟩
  · exact ⟨hw _, by simp⟩
  · refine ⟨hw _, ?_⟩
    have := unpackOne_length (c / 16)
    simp only; omega
theorem parseF_cells (n : Nat) : ∀ l : List Int, l.length ≤ n → (∀ x ∈ l, 0 ≤ x ∧ x ≤ 4294967295) → (parseF n l).flatMap cellsOf = l ∧ ∀ it ∈ parseF n l, cellsOf it ≠ [] ∧ (-2147483648 ≤ it.n ∧ it.n ≤ 2147483647) ∧ it.name.length ≤ 1048576 := by
  induction n with
  | zero =>
    intro l hl hr
    obtain rfl : l = [] := List.eq_nil_of_length_eq_zero (by omega)
    exact ⟨rfl, by simp [parseF]⟩
  | succ n ih =>
    intro l hl hr
    cases l with
    | nil => exact ⟨rfl, by simp [parseF]⟩
    | cons c rest =>
      obtain ⟨h1, h2, h3⟩ := cells_one c rest (hr c (by simp)) (fun x hx => hr x (by simp [hx]))
      obtain ⟨i1, i2⟩ := ih ((c :: rest).drop (parseOne c rest).2) (by rw [List.length_drop]; omega) (drop_mem hr _)
      rw [parseF]
      refine ⟨?_, fun it hit => ?_⟩
      · rw [List.flatMap_cons, i1, h1, List.take_append_drop]
      · rcases List.mem_cons.1 hit with h | h
        · rw [h]
          refine ⟨?_, one_small c rest⟩
          rw [h1]
          intro e
          have := congrArg List.length e
          rw [List.length_take, List.length_cons, List.length_nil] at this
          omega
        · exact i2 it h
theorem parseF_cut (k : Nat) (its : List It) : ∀ (n m : Nat) (C : List Int), its.flatMap cellsOf = C → (∀ x ∈ C, 0 ≤ x ∧ x ≤ 4294967295) → C.length + k ≤ n → C.length ≤ m → (∀ it ∈ its, cellsOf it ≠ []) →
    (∃ r, parseF n (C ++ List.replicate k 0) = its ++ r) → parseF m C = its := by
  induction its with
  | nil =>
    intro n m C hC hr hn hm hne hp
    obtain rfl : C = [] := by rw [← hC]; rfl
    cases m <;> rfl
  | cons it its ih =>
    intro n m C hC hr hn hm hne hp
    obtain ⟨r, hp⟩ := hp
    cases C with
    | nil =>
      rw [List.flatMap_cons] at hC
      exact absurd (List.append_eq_nil_iff.1 hC).1 (hne it (by simp))
    | cons c rest =>
      rw [List.length_cons] at hn hm
      obtain ⟨n, rfl⟩ : ∃ z, n = z + 1 := ⟨n - 1, by omega⟩
      obtain ⟨m, rfl⟩ : ∃ z, m = z + 1 := ⟨m - 1, by omega⟩
      rw [List.cons_append, parseF, List.cons_append] at hp
      injection hp with hp1 hp2
      have hz : ∀ x ∈ rest ++ List.replicate k 0, 0 ≤ x ∧ x ≤ 4294967295 := by
        intro x hx
        rcases List.mem_append.1 hx with hx | hx
        · exact hr x (by simp [hx])
        · rw [(List.mem_replicate.1 hx).2]; omega
      obtain ⟨h1, h2, h3⟩ := cells_one c (rest ++ List.replicate k 0) (hr c (by simp)) hz
      have hl : (cellsOf it).length = (parseOne c (rest ++ List.replicate k 0)).2 := by
        rw [← hp1, h1, List.length_take, List.length_cons]
        omega
      have hlen : (cellsOf it).length ≤ rest.length + 1 := by
        have := congrArg List.length hC
        rw [List.flatMap_cons, List.length_append, List.length_cons] at this
        omega
      have e := one_zeros c rest k (by omega)
      have hsplit : its.flatMap cellsOf = (c :: rest).drop (parseOne c rest).2 := by
        rw [← hC, List.flatMap_cons, e, ← hl, List.drop_left' rfl]
      rw [parseF, e, hp1]
      congr 1
      rw [← e]
      refine ih n m _ hsplit (drop_mem hr _) (by rw [List.length_drop, List.length_cons]; rw [e]; omega) (by rw [List.length_drop, List.length_cons]; rw [e]; omega) (fun x hx => hne x (by simp [hx])) ⟨r, ?_⟩
      rw [← hp2, e, ← List.cons_append, List.drop_append_of_le_length (by rw [List.length_cons]; omega)]
theorem trimR_split (l : List It) : ∃ k, l = trimR l ++ List.replicate k (rawIt 0) := by
  have h := List.takeWhile_append_dropWhile (p := fun it => decide (it = rawIt 0)) (l := l.reverse)
  refine ⟨(l.reverse.takeWhile (fun it => decide (it = rawIt 0))).length, ?_⟩
  have e : l.reverse.takeWhile (fun it => decide (it = rawIt 0)) = List.replicate (l.reverse.takeWhile (fun it => decide (it = rawIt 0))).length (rawIt 0) := by
    refine List.eq_replicate_of_mem fun x hx => ?_
    have := List.all_takeWhile (p := fun it => decide (it = rawIt 0)) (l := l.reverse)
    exact of_decide_eq_true (List.all_eq_true.1 this x hx)
  unfold trimR
  conv => lhs; rw [← List.reverse_reverse l, ← h, List.reverse_append, e, List.reverse_replicate]
theorem trimR_trimR (l : List It) : trimR (trimR l) = trimR l := by
  unfold trimR
  rw [List.reverse_reverse]
  congr 1
  generalize l.reverse = m
  induction m with
  | nil => rfl
  | cons x m ih =>
    by_cases h : x = rawIt 0
    · rw [List.dropWhile_cons, if_pos (decide_eq_true h)]; exact ih
    · rw [List.dropWhile_cons, if_neg (by simpa using h), List.dropWhile_cons, if_neg (by simpa using h)]
theorem unparseFrom_all (its : List It) : ∀ out : List Int, (∀ it ∈ its, cellsOf it ≠ []) → out.length + (its.flatMap cellsOf).length ≤ 64 → unparseFrom out its = (out ++ its.flatMap cellsOf, true) := by
  induction its with
  | nil => intro out hne hl; rw [unparseFrom, List.flatMap_nil, List.append_nil]
  | cons it its ih =>
    intro out hne hl
    rw [List.flatMap_cons, List.length_append] at hl
    rw [unparseFrom, if_neg ?_, ih _ (fun x hx => hne x (by simp [hx])) (by rw [List.length_append]; omega), List.flatMap_cons, List.append_assoc]
    intro h
    rcases h with h | h
    · exact hne it (by simp) h
    · omega
/-- The items of cells, told again as cells: those cells, but for noughts at their end; and those cells' items are the same. -/
theorem parse_back (l : List Int) (hl : l.length ≤ 64) (hr : ∀ x ∈ l, 0 ≤ x ∧ x ≤ 4294967295) :
    ∃ C k, unparse (parse l) = (C, true) ∧ l = C ++ List.replicate k 0 ∧ parse C = parse l := by
  obtain ⟨h1, h2⟩ := parseF_cells l.length l (Nat.le_refl _) hr
  obtain ⟨k, hk⟩ := trimR_split (parseF l.length l)
  have hp : parse l = trimR (parseF l.length l) := by rw [parse, if_neg (by omega)]
  have hz : (List.replicate k (rawIt 0)).flatMap cellsOf = List.replicate k 0 := by
    clear hk
    induction k with
    | zero => rfl
    | succ k ih => rw [List.replicate_succ, List.flatMap_cons, ih, raw_cells, List.replicate_succ]; rfl
  have hne : ∀ it ∈ trimR (parseF l.length l), cellsOf it ≠ [] := fun it hit => (h2 it (by rw [hk]; exact List.mem_append_left _ hit)).1
  have e : l = (trimR (parseF l.length l)).flatMap cellsOf ++ List.replicate k 0 := by
    conv => lhs; rw [← h1, hk, List.flatMap_append, hz]
  have hlen : ((trimR (parseF l.length l)).flatMap cellsOf).length + k = l.length := by
    have := congrArg List.length e
    rw [List.length_append, List.length_replicate] at this
    omega
  refine ⟨_, k, ?_, e, ?_⟩
  · rw [hp, unparse, unparseFrom_all _ [] hne (by simp only [List.length_nil]; omega), List.nil_append]
  · rw [hp, parse, if_neg (by omega)]
    rw [parseF_cut k (trimR (parseF l.length l)) l.length _ _ rfl (fun x hx => hr x (by rw [e]; exact List.mem_append_left _ hx)) (by omega) (Nat.le_refl _) hne ⟨List.replicate k (rawIt 0), by rw [← e]; exact hk⟩, trimR_trimR]
theorem fill_zeros {C : List Int} {k : Nat} (h : C.length + k ≤ 64) : fill (C ++ List.replicate k 0) = fill C := by
  unfold fill
  rw [List.append_assoc, List.length_append, List.length_replicate, List.replicate_append_replicate]
  congr 2
  omega
/-- What the cells of a word are: its item, or the first cell as it stands. -/
def wordIt (t c : Int) (F : List Int) : It := if (unpack F).2 = true then ⟨kindOf t, (unpack F).1, 0, false, 0⟩ else rawIt c
def tup6 (p : It × Nat) : Int × ByteArray × Int × Bool × Int × Int := (p.1.kind, toB p.1.name, p.1.n, p.1.hex, p.1.raw, (p.2 : Int))
theorem parseOne_word {c : Int} {rest : List Int} (h : 0 < kindOf (c % 16)) : (parseOne c rest).1 = wordIt (c % 16) c (c / 16 :: (tailOf rest).map (· / 16)) := by
  unfold parseOne wordIt
  rw [if_pos h]
  split <;> rfl
theorem range_16 {x : Int} (h : 0 ≤ x ∧ x ≤ 4294967295) : 0 ≤ x / 16 ∧ x / 16 ≤ 4294967295 := by omega
theorem fields_range {F l : List Int} (hF : ∀ x ∈ F, 0 ≤ x ∧ x ≤ 4294967295) (hl : ∀ x ∈ l, 0 ≤ x ∧ x ≤ 4294967295) : ∀ x ∈ F ++ (tailOf l).map (· / 16), 0 ≤ x ∧ x ≤ 4294967295 := by
  intro x hx
  rcases List.mem_append.1 hx with hx | hx
  · exact hF x hx
  · obtain ⟨y, hy, rfl⟩ := List.mem_map.1 hx
    exact range_16 (hl y (tail_mem hy).1)
theorem cells7 (n : Int) (h : Bool) : cellsOf ⟨7, [], n, h, 0⟩ = numCells n h 8 2 := by
  unfold cellsOf
  rw [if_neg (by simp), if_pos rfl, if_pos ⟨rfl, rfl⟩]
theorem cells8 (n : Int) (h : Bool) : cellsOf ⟨8, [], n, h, 0⟩ = numCells n h 6 5 := by
  unfold cellsOf
  rw [if_neg (by simp), if_neg (by simp), if_pos rfl, if_pos ⟨rfl, rfl⟩]
theorem tdiv_16 {x : Int} (h : 0 ≤ x ∧ x ≤ 4294967295) : (Int.tdiv x 16) % 4294967296 = x / 16 := by
  rw [Int.tdiv_eq_ediv_of_nonneg h.1]; omega
theorem tmod_16 {x : Int} (h : 0 ≤ x ∧ x ≤ 4294967295) : Int.tmod x 16 = x % 16 := Int.tmod_eq_emod_of_nonneg h.1
theorem parse_8 {c : Int} {rest : List Int} (h : c % 16 = 8) : parseOne c rest = (⟨7, [], wrap32 c / 32, hexOf c, 0⟩, 1) := by
  unfold parseOne
  have := kindOf_cases (c % 16)
  rw [if_neg (by omega), if_pos h]
theorem parse_6 {c : Int} {rest : List Int} (h : c % 16 = 6) : parseOne c rest = (⟨8, [], wrap32 c / 32, hexOf c, 0⟩, 1) := by
  unfold parseOne
  have := kindOf_cases (c % 16)
  rw [if_neg (by omega), if_neg (by omega), if_pos h]
theorem parse_25_nil {c : Int} (h : c % 16 = 2 ∨ c % 16 = 5) : parseOne c [] = (rawIt c, 1) := by
  unfold parseOne
  have := kindOf_cases (c % 16)
  rw [if_neg (by omega), if_neg (by omega), if_neg (by omega), if_pos h]
theorem parse_25 {c d : Int} {rest : List Int} (h : c % 16 = 2 ∨ c % 16 = 5) : parseOne c (d :: rest) = if c < 32 ∧ ¬ (-67108864 ≤ wrap32 d ∧ wrap32 d ≤ 67108863) then (⟨if c % 16 = 5 then 8 else 7, [], wrap32 d, hexOf c, 0⟩, 2) else (rawIt c, 1) := by
  unfold parseOne
  have := kindOf_cases (c % 16)
  rw [if_neg (by omega), if_neg (by omega), if_neg (by omega), if_pos h]
theorem parse_12_nil {c : Int} (h : c % 16 = 12) : parseOne c [] = (rawIt c, 1) := by
  unfold parseOne
  have := kindOf_cases (c % 16)
  rw [if_neg (by omega), if_neg (by omega), if_neg (by omega), if_neg (by omega), if_pos h]
theorem parse_12 {c d : Int} {rest : List Int} (h : c % 16 = 12) : parseOne c (d :: rest) = if fieldOk (c / 16) = true then (⟨9, unpackOne (c / 16), wrap32 d, false, 0⟩, 2) else (rawIt c, 1) := by
  unfold parseOne
  have := kindOf_cases (c % 16)
  rw [if_neg (by omega), if_neg (by omega), if_neg (by omega), if_neg (by omega), if_pos h]
theorem parse_no {c : Int} {rest : List Int} (hk : kindOf (c % 16) = 0) (h8 : c % 16 ≠ 8) (h6 : c % 16 ≠ 6) (h2 : c % 16 ≠ 2) (h5 : c % 16 ≠ 5) (h12 : c % 16 ≠ 12) : parseOne c rest = (rawIt c, 1) := by
  unfold parseOne
  rw [if_neg (by omega), if_neg h8, if_neg h6, if_neg (by omega), if_neg h12]
theorem parse_word2 {c : Int} {rest : List Int} (h : 0 < kindOf (c % 16)) : parseOne c rest = if (unpack (c / 16 :: (tailOf rest).map (· / 16))).2 = true then (⟨kindOf (c % 16), (unpack (c / 16 :: (tailOf rest).map (· / 16))).1, 0, false, 0⟩, (tailOf rest).length + 1) else (rawIt c, 1) := by
  unfold parseOne
  rw [if_pos h]
theorem parse_length (l : List Int) (hr : ∀ x ∈ l, 0 ≤ x ∧ x ≤ 4294967295) : (parse l).length ≤ 64 := by
  unfold parse
  split
  · simp
  · rename_i h
    obtain ⟨h1, h2⟩ := parseF_cells l.length l (Nat.le_refl _) hr
    obtain ⟨k, hk⟩ := trimR_split (parseF l.length l)
    have hlen : ∀ its : List It, (∀ it ∈ its, cellsOf it ≠ []) → its.length ≤ (its.flatMap cellsOf).length := by
      intro its
      induction its with
      | nil => intro _; simp
      | cons it its ih =>
        intro hne
        have a := ih (fun x hx => hne x (by simp [hx]))
        have b : 0 < (cellsOf it).length := List.length_pos_iff.2 (hne it (by simp))
        rw [List.flatMap_cons, List.length_append, List.length_cons]
        omega
    have a := hlen _ (fun it h => (h2 it h).1)
    rw [h1] at a
    have := congrArg List.length hk
    rw [List.length_append] at this
    omega
theorem unparseFrom_range (l : List It) : ∀ out : List Int, (∀ x ∈ out, 0 ≤ x ∧ x ≤ 4294967295) → (∀ it ∈ l, 0 ≤ it.raw ∧ it.raw ≤ 4294967295) → ∀ x ∈ (unparseFrom out l).1, 0 ≤ x ∧ x ≤ 4294967295 := by
  induction l with
  | nil => intro out h hw; exact h
  | cons it l ih =>
    intro out h hw
    rw [unparseFrom]
    split
    · simp
    · refine ih _ (fun x hx => ?_) (fun y hy => hw y (by simp [hy]))
      rcases List.mem_append.1 hx with hx | hx
      · exact h x hx
      · exact cellsOf_range it (hw it (by simp)) x hx
theorem unparse_range (l : List It) (hw : ∀ it ∈ l, 0 ≤ it.raw ∧ it.raw ≤ 4294967295) : ∀ x ∈ (unparse l).1, 0 ≤ x ∧ x ≤ 4294967295 := unparseFrom_range l [] (by simp) hw
theorem blockOf_range (l : List Int) (b : Int) (hr : ∀ x ∈ l, 0 ≤ x ∧ x ≤ 4294967295) : ∀ x ∈ (blockOf l b).1, 0 ≤ x ∧ x ≤ 4294967295 := by
  unfold blockOf
  split
  · intro x hx
    exact hr x (List.mem_of_mem_take (List.mem_of_mem_drop hx))
  · simp
theorem one_raw (c : Int) (rest : List Int) (hc : 0 ≤ c ∧ c ≤ 4294967295) : 0 ≤ (parseOne c rest).1.raw ∧ (parseOne c rest).1.raw ≤ 4294967295 := by
  unfold parseOne
  repeat' split
  all_goals first
    | exact hc
    | exact ⟨by simp, by simp⟩
theorem parseF_raw (n : Nat) : ∀ l : List Int, (∀ x ∈ l, 0 ≤ x ∧ x ≤ 4294967295) → ∀ it ∈ parseF n l, 0 ≤ it.raw ∧ it.raw ≤ 4294967295 := by
  induction n with
  | zero => intro l hr it hit; simp [parseF] at hit
  | succ n ih =>
    intro l hr it hit
    cases l with
    | nil => simp [parseF] at hit
    | cons c rest =>
      rw [parseF] at hit
      rcases List.mem_cons.1 hit with h | h
      · rw [h]; exact one_raw c rest (hr c (by simp))
      · exact ih _ (drop_mem hr _) it h
theorem parse_small (l : List Int) (hr : ∀ x ∈ l, 0 ≤ x ∧ x ≤ 4294967295) : ∀ it ∈ parse l, (-2147483648 ≤ it.n ∧ it.n ≤ 2147483647) ∧ it.name.length ≤ 1048576 ∧ (0 ≤ it.raw ∧ it.raw ≤ 4294967295) := by
  intro it hit
  unfold parse at hit
  split at hit
  · simp at hit
  · obtain ⟨k, hk⟩ := trimR_split (parseF l.length l)
    have hm : it ∈ parseF l.length l := by rw [hk]; exact List.mem_append_left _ hit
    obtain ⟨_, b, c⟩ := (parseF_cells l.length l (Nat.le_refl _) hr).2 it hm
    exact ⟨b, c, parseF_raw _ l hr it hm⟩
theorem decFrom_snoc (b : UInt8) (l : List UInt8) : ∀ acc, Lib.decFrom acc (l ++ [b]) = (Lib.decFrom acc l).bind fun v => (Lib.digitVal b).map fun d => v * 10 + d := by
  induction l with
  | nil => intro acc; simp only [List.nil_append, Lib.decFrom]; cases Lib.digitVal b <;> rfl
  | cons c l ih =>
    intro acc
    simp only [List.cons_append, Lib.decFrom]
    cases Lib.digitVal c with
    | none => rfl
    | some d => exact ih _
theorem digit_dig (d : Nat) (h : d < 10) : Lib.digitVal (UInt8.ofNat (48 + d)) = some d := by
  have e : (UInt8.ofNat (48 + d)).toNat = 48 + d := by rw [UInt8.toNat_ofNat']; omega
  unfold Lib.digitVal
  rw [e, if_pos (by omega)]
  congr 1; omega
theorem dec_back (u : Nat) : Lib.decFrom 0 (Lib.decDigits u) = some u := by
  induction u using Nat.strongRecOn with
  | _ u ih =>
    rw [Lib.decDigits]
    by_cases h : u < 10
    · rw [dif_pos h]
      simp only [Lib.decFrom, digit_dig u h]
      congr 1; omega
    · rw [dif_neg h, decFrom_snoc, ih (u / 10) (by omega), digit_dig _ (Nat.mod_lt _ (by decide))]
      simp only [Option.bind_some, Option.map_some]
      congr 1; omega
theorem dec_ne (u : Nat) : Lib.decDigits u ≠ [] := by
  intro e
  have := Lib.decDigits_length u
  have := Lib.nDigits_pos u
  rw [e] at *
  simp at *
  omega
theorem dec_len {u : Nat} (h : u ≤ 9999999999) : (Lib.decDigits u).length ≤ 10 := by
  rw [Lib.decDigits_length]
  have h1 := Lib.nDigits_pos u
  rcases Nat.lt_or_ge (Lib.nDigits u) 11 with hl | hl
  · omega
  · exfalso
    have key : ∀ (k u : Nat), k + 1 ≤ Lib.nDigits u → 1 ≤ u → 10 ^ k ≤ u := by
      intro k
      induction k with
      | zero => intro u _ h; simpa using h
      | succ k ih =>
        intro u hk hu
        by_cases hs : u < 10
        · rw [Lib.nDigits_small hs] at hk; omega
        · rw [Lib.nDigits_big hs] at hk
          have := ih (u / 10) (by omega) (by omega)
          rw [Nat.pow_succ]; omega
    have hu : 1 ≤ u := by
      rcases Nat.eq_zero_or_pos u with e | e
      · rw [e, Lib.nDigits_small (by decide)] at hl; omega
      · exact e
    have := key 10 u (by omega) hu
    have e10 : (10 : Nat) ^ 10 = 10000000000 := by decide
    omega
theorem decNat_dec (u : Nat) : Lib.decNat (Lib.decDigits u) = some u := by
  unfold Lib.decNat
  rw [if_neg (by simpa using dec_ne u), dec_back]
/-- Is the first byte of a numeral a digit. -/
theorem dec_first (u : Nat) {b : UInt8} {r : List UInt8} (h : Lib.decDigits u = b :: r) : b ≠ 45 ∧ b ≠ 43 := by
  have e := dec_back u
  rw [h] at e
  simp only [Lib.decFrom] at e
  constructor
  · rintro rfl; simp [Lib.digitVal] at e
  · rintro rfl; simp [Lib.digitVal] at e
theorem atoi_itoa (n : Int) : Lib.atoi (Lib.itoa n) = some n := by
  unfold Lib.itoa
  split
  · simp only [Lib.atoi]
    rw [if_pos (by decide), decNat_dec]
    simp only [Option.map_some]
    congr 1; omega
  · obtain ⟨b, r, e⟩ := List.exists_cons_of_ne_nil (dec_ne n.toNat)
    have hb := dec_first _ e
    have e2 := decNat_dec n.toNat
    rw [e] at e2 ⊢
    simp only [Lib.atoi]
    rw [if_neg (by simpa using hb.1), if_neg (by simpa using hb.2), e2]
    simp only [Option.map_some]
    congr 1; omega
theorem itoa_len {n : Int} (h0 : -9999999999 ≤ n) (h1 : n ≤ 9999999999) : (Lib.itoa n).length ≤ 11 ∧ 1 ≤ (Lib.itoa n).length := by
  unfold Lib.itoa
  split
  · have := dec_len (u := n.natAbs) (by omega)
    rw [List.length_cons]; omega
  · have := dec_len (u := n.toNat) (by omega)
    have := List.length_pos_iff.2 (dec_ne n.toNat)
    omega
theorem atoiAll_itoa {n : Int} (h0 : -9999999999 ≤ n) (h1 : n ≤ 9999999999) : Lib.atoiAll (Lib.itoa n) = .ok n := by
  rw [Lib.atoiAll_short _ (by have := (itoa_len h0 h1).1; omega), atoi_itoa]; rfl
theorem itoa_inj {m n : Int} (h : Lib.itoa m = Lib.itoa n) : m = n := by
  have e := atoi_itoa m
  rw [h, atoi_itoa n] at e
  exact (Option.some.inj e).symm
/-- Is it the numeral of a small number. -/
def isDec (l : List UInt8) : Prop := ∃ n : Int, (-9999999999 ≤ n ∧ n ≤ 9999999999) ∧ Lib.itoa n = l
open Classical in
/-- What reading tells. -/
noncomputable def decR (l : List UInt8) : Int × Bool := if h : isDec l then (Classical.choose h, true) else (0, false)
theorem decR_itoa {n : Int} (h0 : -9999999999 ≤ n) (h1 : n ≤ 9999999999) : decR (Lib.itoa n) = (n, true) := by
  have h : isDec (Lib.itoa n) := ⟨n, ⟨h0, h1⟩, rfl⟩
  unfold decR
  rw [dif_pos h, itoa_inj (Classical.choose_spec h).2]
theorem decR_no {l : List UInt8} (h : ¬ isDec l) : decR l = (0, false) := dif_neg h
/-- One number's test. -/
def finD (l : List UInt8) (n : Int) : Int × Bool := if (-9999999999 ≤ n ∧ n ≤ 9999999999) ∧ Lib.itoa n = l then (n, true) else (0, false)
theorem finD_of (l : List UInt8) (n : Int) (h : ∀ m, (-9999999999 ≤ m ∧ m ≤ 9999999999) → Lib.itoa m = l → m = n) : finD l n = decR l := by
  unfold finD
  by_cases hd : isDec l
  · obtain ⟨m, hb, e⟩ := hd
    obtain rfl := h m hb e
    rw [if_pos ⟨hb, e⟩, ← e, decR_itoa hb.1 hb.2]
  · rw [decR_no hd, if_neg]
    rintro ⟨hb, e⟩
    exact hd ⟨n, hb, e⟩
end Go.Proofs.YtfjmpdcflnaogaaGreatDoor.Plain
