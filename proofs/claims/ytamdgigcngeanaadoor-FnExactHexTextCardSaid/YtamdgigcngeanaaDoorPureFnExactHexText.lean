/-
The law FnExactHexText holds of the printed plain functions, for all arguments that the printed bounds allow.
-/
import Derived.Test.YtamdgigcngeanaaDoorQFnExactHexTextx1
import Derived.Test.YtamdgigcngeanaaDoorTools
import Derived.Test.YtamdgigcngeanaaDoorSpots
import Derived.Test.YtamdgigcngeanaaDoorDecs
namespace Go.Proofs.YtamdgigcngeanaaDoor.Pure
open Go.RowKit Go.Proofs.YtamdgigcngeanaaDoor.QFnExactHexText Go.Proofs.YtamdgigcngeanaaDoorW.PrintWords Go.Proofs.YtamdgigcngeanaaDoorW.PrintLast Go.Proofs.YtamdgigcngeanaaDoorW.PrintMore Go.Proofs.YtamdgigcngeanaaDoor.Tools Go.Proofs.YtamdgigcngeanaaDoor.Plain
set_option linter.unusedVariables false

/-! ### hexL -/
/-- The digits, none for nought. -/
def hexN (u : Nat) : List UInt8 := if u = 0 then [] else Hex.hexL u
theorem hexN_step (u : Nat) (h : u ≠ 0) : hexN u = hexN (u / 16) ++ [Hex.hexDig (u % 16)] := by
  unfold hexN
  rw [if_neg h]
  by_cases h1 : u < 16
  · rw [Hex.hexL_small h1, if_pos (by omega), Nat.mod_eq_of_lt h1]; rfl
  · rw [Hex.hexL_step h1, if_neg (by omega)]
theorem hex_cut (d : Nat) (h : d < 16) : (⟨#[48, 49, 50, 51, 52, 53, 54, 55, 56, 57, 97, 98, 99, 100, 101, 102]⟩ : ByteArray).extract d (d + 1) = toB [Hex.hexDig d] := by
  rw [extract_eq]
  apply congrArg toB
  match d, h with
  | 0, _ => rfl
  | 1, _ => rfl
  | 2, _ => rfl
  | 3, _ => rfl
  | 4, _ => rfl
  | 5, _ => rfl
  | 6, _ => rfl
  | 7, _ => rfl
  | 8, _ => rfl
  | 9, _ => rfl
  | 10, _ => rfl
  | 11, _ => rfl
  | 12, _ => rfl
  | 13, _ => rfl
  | 14, _ => rfl
  | 15, _ => rfl
  | n + 16, h => omega
theorem tmod16 (u : Nat) : Int.tmod (u : Int) 16 = ((u % 16 : Nat) : Int) := rfl
theorem tdiv16 (u : Nat) : Int.tdiv (u : Int) 16 = ((u / 16 : Nat) : Int) := rfl

/-! ### spec_HexText -/
theorem spec_HexText_l0 (n : Nat) : ∀ (u : Nat) (acc : List UInt8), u < 16 ^ n → acc.length + n ≤ 100 → u ≤ 4294967295 →
    Ev (fun k => spec_HexText.l0 k (toB acc) (u : Int)) (toB (hexN u ++ acc)) := by
  have stop : ∀ acc : List UInt8, Ev (fun k => spec_HexText.l0 k (toB acc) ((0 : Nat) : Int)) (toB (hexN 0 ++ acc)) := by
    intro acc
    refine Ev.step (fun k => by rw [spec_HexText.l0]) ?_
    exact ev_neg (by omega) (ev_ret rfl)
  induction n with
  | zero =>
    intro u acc hu ha h1
    obtain rfl : u = 0 := by rw [Nat.pow_zero] at hu; omega
    exact stop acc
  | succ n ih =>
    intro u acc hu ha h1
    by_cases hz : u = 0
    · subst hz; exact stop acc
    rw [Nat.pow_succ] at hu
    have hd : u % 16 < 16 := Nat.mod_lt _ (by decide)
    have e := ih (u / 16) (Hex.hexDig (u % 16) :: acc) (by omega) (by rw [List.length_cons]; omega) (by omega)
    refine Ev.step (fun k => by rw [spec_HexText.l0]) ?_
    rw [tmod16, tdiv16, w64 (x := ((u % 16 : Nat) : Int) + 1) (by omega) (by omega), show ((u % 16 : Nat) : Int) + 1 = ((u % 16 + 1 : Nat) : Int) by omega, Int.toNat_natCast, Int.toNat_natCast, hex_cut (u % 16) hd, toB_append', toB_size, toB_size, w64 (x := ((u / 16 : Nat) : Int)) (by omega) (by omega)]
    refine ev_pos (by omega) (ev_pos (by omega) (ev_pos (by omega) (ev_pos (by omega) (ev_pos (by rw [List.length_singleton]; omega) ?_))))
    rw [hexN_step u hz, List.append_assoc]
    exact e
theorem spec_HexText_ev (u : Nat) (h1 : u ≤ 4294967295) : Ev (fun k => spec_HexText.f k (u : Int)) (toB (Hex.hexL u)) := by
  refine ev_ite (fun h => ev_ret ?_) (fun h => ?_)
  · obtain rfl : u = 0 := by omega
    rw [Hex.hexL_small (by decide)]; rfl
  · rw [w64 (by omega) (by omega)]
    refine ev_to (spec_HexText_l0 8 u [] (by omega) (by decide) h1) ?_
    rw [List.append_nil, hexN, if_neg (by omega)]

/-! ### impl_HexText -/
theorem impl_HexText_eq (u : Nat) (h1 : u ≤ 4294967295) : impl_HexText.f (u : Int) = some (toB (Hex.hexL u)) := if_pos ⟨by omega, by omega⟩

/-! ### FnExactHexText -/
theorem FnExactHexText : laws_FnExactHexText.Pure := by
  intro n hw
  have hb := wf_u32 hw
  obtain ⟨u, rfl⟩ := Int.eq_ofNat_of_zero_le hb.1
  refine Ev.rounds (r := true) ?_
  exact ev_bind (spec_HexText_ev u (by omega)) (ev_bind (ev_eq (impl_HexText_eq u (by omega))) (ev_pos rfl (ev_ret rfl)))

end Go.Proofs.YtamdgigcngeanaaDoor.Pure
