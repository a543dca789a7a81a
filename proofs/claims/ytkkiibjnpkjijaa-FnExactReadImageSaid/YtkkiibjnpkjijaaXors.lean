/-
Bits turned by 'xor', and sums of cells of which one is another; no conditions beyond those written in each.
-/
import Derived.Test.YtkkiibjnpkjijaaStores
namespace Go.Proofs.Ytkkiibjnpkjijaa.Plain
open Go.RowKit Go.Proofs.Ytkkiibjnpkjijaa.Tools

theorem xor_u32 (a b : Int) : Go.bits .xor .u32 a b = ((BitVec.ofInt 32 a ^^^ BitVec.ofInt 32 b).toNat : Int) := by
  unfold Go.bits
  simp only
  rw [IntKind.wrap_u32]
  have := (BitVec.ofInt 32 a ^^^ BitVec.ofInt 32 b).isLt
  show ((BitVec.ofInt 32 a ^^^ BitVec.ofInt 32 b).toNat : Int) % 4294967296 = ((BitVec.ofInt 32 a ^^^ BitVec.ofInt 32 b).toNat : Int)
  generalize (BitVec.ofInt 32 a ^^^ BitVec.ofInt 32 b).toNat = c at this ⊢
  omega
theorem xor_u8 (a b : Int) : Go.bits .xor .u8 a b = ((BitVec.ofInt 8 a ^^^ BitVec.ofInt 8 b).toNat : Int) := by
  unfold Go.bits
  simp only
  rw [show ∀ x : Int, IntKind.u8.wrap x = x % 256 from fun x => by simp only [IntKind.wrap, IntKind.bits, IntKind.signed, Bool.false_and, Bool.false_eq_true, if_false]; rfl]
  have := (BitVec.ofInt 8 a ^^^ BitVec.ofInt 8 b).isLt
  show ((BitVec.ofInt 8 a ^^^ BitVec.ofInt 8 b).toNat : Int) % 256 = ((BitVec.ofInt 8 a ^^^ BitVec.ofInt 8 b).toNat : Int)
  generalize (BitVec.ofInt 8 a ^^^ BitVec.ofInt 8 b).toNat = c at this ⊢
  omega
theorem xor_u32_range (a b : Int) : 0 ≤ Go.bits .xor .u32 a b ∧ Go.bits .xor .u32 a b ≤ 4294967295 := by
  rw [xor_u32]
  have := (BitVec.ofInt 32 a ^^^ BitVec.ofInt 32 b).isLt
  omega
theorem xor_u8_range (a b : Int) : 0 ≤ Go.bits .xor .u8 a b ∧ Go.bits .xor .u8 a b ≤ 255 := by
  rw [xor_u8]
  have := (BitVec.ofInt 8 a ^^^ BitVec.ofInt 8 b).isLt
  omega
theorem ofInt32_inj {a b : Int} (ha : 0 ≤ a ∧ a ≤ 4294967295) (hb : 0 ≤ b ∧ b ≤ 4294967295) (h : BitVec.ofInt 32 a = BitVec.ofInt 32 b) : a = b := by
  have := congrArg BitVec.toNat h
  rw [BitVec.toNat_ofInt, BitVec.toNat_ofInt] at this
  omega
theorem ofInt8_inj {a b : Int} (ha : 0 ≤ a ∧ a ≤ 255) (hb : 0 ≤ b ∧ b ≤ 255) (h : BitVec.ofInt 8 a = BitVec.ofInt 8 b) : a = b := by
  have := congrArg BitVec.toNat h
  rw [BitVec.toNat_ofInt, BitVec.toNat_ofInt] at this
  omega
theorem bv_xor_left {n : Nat} {x y z : BitVec n} (h : x ^^^ z = y ^^^ z) : x = y := by
  have := congrArg (· ^^^ z) h
  simpa [BitVec.xor_assoc] using this
theorem xor_u32_inj {a b x : Int} (ha : 0 ≤ a ∧ a ≤ 4294967295) (hb : 0 ≤ b ∧ b ≤ 4294967295) (h : Go.bits .xor .u32 a x = Go.bits .xor .u32 b x) : a = b := by
  rw [xor_u32, xor_u32] at h
  exact ofInt32_inj ha hb (bv_xor_left (BitVec.eq_of_toNat_eq (by exact_mod_cast h)))
theorem xor_u32_inj' {a x y : Int} (hx : 0 ≤ x ∧ x ≤ 4294967295) (hy : 0 ≤ y ∧ y ≤ 4294967295) (h : Go.bits .xor .u32 a x = Go.bits .xor .u32 a y) : x = y := by
  rw [xor_u32, xor_u32, BitVec.xor_comm, BitVec.xor_comm (BitVec.ofInt 32 a)] at h
  exact ofInt32_inj hx hy (bv_xor_left (BitVec.eq_of_toNat_eq (by exact_mod_cast h)))
theorem xor_u32_ne {x y : Int} (hx : 0 ≤ x ∧ x ≤ 4294967295) (hy : 1 ≤ y ∧ y ≤ 4294967295) : Go.bits .xor .u32 x y ≠ x := by
  intro h
  have h0 : Go.bits .xor .u32 x 0 = x := by
    rw [xor_u32, show BitVec.ofInt 32 0 = 0#32 from rfl, BitVec.xor_zero, BitVec.toNat_ofInt]
    omega
  have := xor_u32_inj' (a := x) (x := y) (y := 0) (by omega) (by omega) (h.trans h0.symm)
  omega
theorem xor_u8_ne {x y : Int} (hx : 0 ≤ x ∧ x ≤ 255) (hy : 1 ≤ y ∧ y ≤ 255) : Go.bits .xor .u8 x y ≠ x := by
  intro h
  have h0 : Go.bits .xor .u8 x 0 = x := by
    rw [xor_u8, show BitVec.ofInt 8 0 = 0#8 from rfl, BitVec.xor_zero, BitVec.toNat_ofInt]
    omega
  have h2 := h.trans h0.symm
  rw [xor_u8, xor_u8, BitVec.xor_comm, BitVec.xor_comm (BitVec.ofInt 8 x)] at h2
  have := ofInt8_inj (a := y) (b := 0) (by omega) (by omega) (bv_xor_left (BitVec.eq_of_toNat_eq (by exact_mod_cast h2)))
  omega
theorem mul_inj {a b : Int} (ha : 0 ≤ a ∧ a ≤ 4294967295) (hb : 0 ≤ b ∧ b ≤ 4294967295) (h : a * 16777619 % 4294967296 = b * 16777619 % 4294967296) : a = b := by
  have e : ∀ x : Int, 0 ≤ x ∧ x ≤ 4294967295 → (x * 16777619 % 4294967296) * 899433627 % 4294967296 = x := by
    intro x hx
    rw [Int.mul_emod, Int.emod_emod, ← Int.mul_emod, Int.mul_assoc, show (16777619 * 899433627 : Int) = 1 + 4294967296 * 3513497 from by decide, Int.mul_add, Int.mul_one, Int.mul_left_comm, Int.add_mul_emod_self_left]
    exact Int.emod_eq_of_lt hx.1 (by omega)
  rw [← e a ha, ← e b hb, h]
theorem sumFrom_inj (l : List Int) : ∀ {h h' : Int}, 0 ≤ h ∧ h ≤ 4294967295 → 0 ≤ h' ∧ h' ≤ 4294967295 → sumFrom h l = sumFrom h' l → h = h' := by
  induction l with
  | nil => intro h h' _ _ e; exact e
  | cons c l ih =>
    intro h h' r r' e
    have e1 := ih (by omega) (by omega) e
    exact xor_u32_inj r r' (mul_inj (xor_u32_range _ _) (xor_u32_range _ _) e1)
theorem sumFrom_set (l : List Int) : ∀ (i : Nat) (h : Int) (v : Int) (hi : i < l.length), 0 ≤ h ∧ h ≤ 4294967295 → (∀ x ∈ l, 0 ≤ x ∧ x ≤ 4294967295) → 0 ≤ v ∧ v ≤ 4294967295 → v ≠ l[i] → sumFrom h (l.set i v) ≠ sumFrom h l := by
  induction l with
  | nil => intro i h v hi; simp at hi
  | cons c l ih =>
    intro i h v hi hh hl hv hne e
    cases i with
    | zero =>
      rw [List.set_cons_zero] at e
      have e1 := sumFrom_inj l (by omega) (by omega) e
      have e2 := mul_inj (xor_u32_range _ _) (xor_u32_range _ _) e1
      exact hne (xor_u32_inj' hv (hl c List.mem_cons_self) e2)
    | succ i =>
      rw [List.set_cons_succ] at e
      exact ih i _ v (by simpa using hi) (by omega) (fun x hx => hl x (List.mem_cons_of_mem _ hx)) hv (by simpa using hne) e
theorem sumOf_set {l : List Int} {i : Nat} {v : Int} (hi : i < l.length) (hl : ∀ x ∈ l, 0 ≤ x ∧ x ≤ 4294967295) (hv : 0 ≤ v ∧ v ≤ 4294967295) (hne : v ≠ l[i]) : sumOf (l.set i v) ≠ sumOf l :=
  sumFrom_set l i _ v hi (by omega) hl hv hne
end Go.Proofs.Ytkkiibjnpkjijaa.Plain
