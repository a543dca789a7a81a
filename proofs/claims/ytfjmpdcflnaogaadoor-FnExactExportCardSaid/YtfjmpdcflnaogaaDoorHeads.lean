/-
The first bits of a text of bits, as both programs reckon them; no conditions beyond those written in each.
-/
import Derived.Test.YtfjmpdcflnaogaaDoorTools
import Derived.Test.YtfjmpdcflnaogaaDoorLetters
import Derived.Laws.BitsLemmas
namespace Go.Proofs.YtfjmpdcflnaogaaDoor.Plain
open Go.RowKit Go.Proofs.YtfjmpdcflnaogaaDoor.Tools Go.Proofs.YtfjmpdcflnaogaaDoorW.PrintWords Go.Proofs.YtfjmpdcflnaogaaDoorW.PrintMore

theorem two_pow_le {a b : Nat} (h : a ≤ b) : (2 : Int) ^ a ≤ 2 ^ b := by
  have := Nat.pow_le_pow_right (n := 2) (by decide) h
  exact_mod_cast this
theorem two_pow_pos (a : Nat) : (0 : Int) < 2 ^ a := by
  have := Nat.two_pow_pos a
  exact_mod_cast this
theorem and_u32 {x : Int} {i : Nat} (hx : 0 ≤ x ∧ x ≤ 4294967295) (hi : i ≤ 32) : Go.bits .and .u32 x (2 ^ i - 1) = x % 2 ^ i :=
  bits_mask .u32 32 (by decide) (fun n h0 h1 => by rw [IntKind.wrap_u32]; omega) i hi x hx.1 (by omega)
theorem and_i64 {x : Int} {i : Nat} (hx : 0 ≤ x ∧ x ≤ 9223372036854775807) (hi : i ≤ 63) : Go.bits .and .i64 x (2 ^ i - 1) = x % 2 ^ i :=
  bits_mask .i64 63 (by decide) (fun n h0 h1 => by rw [IntKind.wrap_i64]; omega) i hi x hx.1 (by omega)
theorem shl1_u32 {w : Int} (h0 : 0 ≤ w) (h1 : w ≤ 31) : shl .u32 1 w = 2 ^ w.toNat := by
  unfold shl
  have e : min w.toNat IntKind.u32.bits = w.toNat := by simp only [IntKind.bits]; omega
  rw [e, IntKind.wrap_u32]
  have := two_pow_le (a := w.toNat) (b := 31) (by omega)
  have := two_pow_pos w.toNat
  omega
theorem shl1_i64 {w : Int} (h0 : 0 ≤ w) (h1 : w ≤ 62) : shl .i64 1 w = 2 ^ w.toNat := by
  unfold shl
  have e : min w.toNat IntKind.i64.bits = w.toNat := by simp only [IntKind.bits]; omega
  rw [e, IntKind.wrap_i64]
  have := two_pow_le (a := w.toNat) (b := 62) (by omega)
  have := two_pow_pos w.toNat
  omega
theorem shr_eq {k : IntKind} {x w : Int} (h1 : w.toNat ≤ k.bits) : shr k x w = x / 2 ^ w.toNat := by
  unfold shr
  rw [Nat.min_eq_left h1]
theorem shl_i64 {x y : Int} (hx : 0 ≤ x) (hy : 0 ≤ y ∧ y ≤ 64) (h : x * 2 ^ y.toNat ≤ 9223372036854775807) : shl .i64 x y = x * 2 ^ y.toNat := by
  unfold shl
  have e : min y.toNat IntKind.i64.bits = y.toNat := by simp only [IntKind.bits]; omega
  rw [e, IntKind.wrap_i64]
  have := Int.mul_nonneg hx (show (0 : Int) ≤ 2 ^ y.toNat by have := two_pow_pos y.toNat; omega)
  omega
theorem shl_u32 {x y : Int} (hx : 0 ≤ x) (hy : 0 ≤ y ∧ y ≤ 32) (h : x * 2 ^ y.toNat ≤ 4294967295) : shl .u32 x y = x * 2 ^ y.toNat := by
  unfold shl
  have e : min y.toNat IntKind.u32.bits = y.toNat := by simp only [IntKind.bits]; omega
  rw [e, IntKind.wrap_u32]
  have := Int.mul_nonneg hx (show (0 : Int) ≤ 2 ^ y.toNat by have := two_pow_pos y.toNat; omega)
  omega
theorem or_u32 {x y : Int} (i : Nat) (hx : 0 ≤ x ∧ x ≤ 4294967295) (hm : x % 2 ^ i = 0) (hy : 0 ≤ y) (hy2 : y < 2 ^ i) (hy1 : y ≤ 4294967295) : Go.bits .or .u32 x y = x + y :=
  bits_join .u32 32 (by decide) (fun n h0 h1 => by rw [IntKind.wrap_u32]; omega) i x y hx.1 hm (by omega) hy hy2 (by omega)
theorem div_range {x : Int} {m : Nat} (hx : 0 ≤ x ∧ x ≤ 4294967295) : 0 ≤ x / 2 ^ m ∧ x / 2 ^ m ≤ 4294967295 := by
  have hp := two_pow_pos m
  exact ⟨Int.ediv_nonneg hx.1 (by omega), Int.le_trans (Int.ediv_le_self _ hx.1) hx.2⟩
theorem head_split (x : Int) {n w : Int} (h0 : 0 ≤ w) (hw : w ≤ n) : x % 2 ^ n.toNat / 2 ^ (n - w).toNat = x / 2 ^ (n - w).toNat % 2 ^ w.toNat := by
  have e : n.toNat = (n - w).toNat + w.toNat := by omega
  rw [e, Int.pow_add]
  have hp := two_pow_pos (n - w).toNat
  have hq := two_pow_pos w.toNat
  generalize (2 : Int) ^ (n - w).toNat = p at *
  generalize (2 : Int) ^ w.toNat = q at *
  rw [← Int.emod_emod_of_dvd (x / p) (Int.dvd_refl q)]
  have h1 := Int.mul_ediv_add_emod x p
  have h2 := Int.mul_ediv_add_emod (x / p) q
  have h3 := Int.emod_nonneg x (show p ≠ 0 by omega)
  have h4 := Int.emod_lt_of_pos x hp
  have h5 := Int.emod_nonneg (x / p) (show q ≠ 0 by omega)
  have h6 := Int.emod_lt_of_pos (x / p) hq
  have h7 : x = p * q * (x / p / q) + (p * (x / p % q) + x % p) := by
    have : p * (x / p) = p * (q * (x / p / q)) + p * (x / p % q) := by rw [← Int.mul_add, h2]
    rw [Int.mul_assoc]; omega
  have h8 : p * (x / p % q) + x % p < p * q := by
    have : p * (x / p % q + 1) ≤ p * q := Int.mul_le_mul_of_nonneg_left (by omega) (by omega)
    rw [Int.mul_add] at this; omega
  have h9 : 0 ≤ p * (x / p % q) := Int.mul_nonneg (by omega) h5
  have h10 : x % (p * q) = p * (x / p % q) + x % p := by
    conv => lhs; rw [h7]
    rw [Int.add_comm (p * q * _), Int.add_mul_emod_self_left]
    exact Int.emod_eq_of_lt (by omega) h8
  rw [h10, Int.add_comm, Int.add_mul_ediv_left _ _ (by omega), Int.ediv_eq_zero_of_lt h3 h4, Int.emod_emod]
  omega
theorem spec_head (x n w : Int) (hx : 0 ≤ x ∧ x ≤ 4294967295) (hn : 1 ≤ n ∧ n ≤ 32) (h0 : 0 ≤ w ∧ w ≤ 7) (hw : w ≤ n) :
    shr .i64 (Go.bits .and .i64 (wrap64 x) (wrap64 (shl .i64 1 (IntKind.u64.wrap n) - 1))) (IntKind.u64.wrap (wrap64 (n - w))) = x / 2 ^ (n - w).toNat % 2 ^ w.toNat := by
  rw [w64 (x := x) (by omega) (by omega), wu64 (x := n) (by omega) (by omega), shl1_i64 (by omega) (by omega), w64 (x := n - w) (by omega) (by omega), wu64 (x := n - w) (by omega) (by omega)]
  have := two_pow_le (a := n.toNat) (b := 32) (by omega)
  have := two_pow_pos n.toNat
  rw [w64 (by omega) (by omega), and_i64 (by omega) (by omega), shr_eq (by simp only [IntKind.bits]; omega), head_split x h0.1 hw]
theorem impl_head (x n w : Int) (hx : 0 ≤ x ∧ x ≤ 4294967295) (hn : 1 ≤ n ∧ n ≤ 32) (h0 : 0 ≤ w ∧ w ≤ 7) (hw : w ≤ n) :
    Go.bits .and .u32 (shr .u32 x (wrap64 (n - w))) ((shl .u32 1 w - 1) % 4294967296) = x / 2 ^ (n - w).toNat % 2 ^ w.toNat := by
  rw [shl1_u32 h0.1 (by omega), w64 (x := n - w) (by omega) (by omega), shr_eq (by simp only [IntKind.bits]; omega)]
  have := two_pow_le (a := w.toNat) (b := 7) (by omega)
  have := two_pow_pos w.toNat
  rw [show ((2 : Int) ^ w.toNat - 1) % 4294967296 = 2 ^ w.toNat - 1 by omega, and_u32 (div_range hx) (by omega)]
end Go.Proofs.YtfjmpdcflnaogaaDoor.Plain
