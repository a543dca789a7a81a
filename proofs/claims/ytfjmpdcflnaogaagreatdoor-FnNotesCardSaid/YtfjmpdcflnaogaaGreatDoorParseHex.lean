/-
Hexadecimal numerals read: the library's walk at base 16; no conditions beyond those written.
-/
import Derived.Test.YtfjmpdcflnaogaaGreatDoorProg
import Derived.Test.YtfjmpdcflnaogaaGreatDoorWWords
import Derived.WalkKit
import Derived.ProofKit
import Derived.LoopN
import Derived.Lib.SliceRun
import Derived.Lib.ConvBytes
import Derived.Lib.AtoiErrMem
import Derived.Test.YtfjmpdcflnaogaaGreatDoorAtoi
import Derived.Test.YtfjmpdcflnaogaaGreatDoorHex
namespace Go.Proofs.YtfjmpdcflnaogaaGreatDoor.ParseHex
open Go.RowKit Go.Proofs.YtfjmpdcflnaogaaGreatDoorW.PrintWords
set_option maxRecDepth 100000
set_option linter.unusedVariables false
def lowN (b : UInt8) : Nat := (b ||| 32).toNat
theorem low_bits : ∀ n : Fin 256, bits BinOp.or IntKind.u8 (n.val : Int) 32 = ((lowN (UInt8.ofNat n.val) : Nat) : Int) := by decide +kernel
theorem low_ge : ∀ n : Fin 256, 97 ≤ lowN (UInt8.ofNat n.val) → 64 < n.val := by decide +kernel
theorem low_big {b : UInt8} (h : 97 ≤ lowN b) : 64 < b.toNat := by
  have e := low_ge ⟨b.toNat, b.toNat_lt⟩
  simp only [UInt8.ofNat_toNat] at e
  exact e h
theorem lower (b : UInt8) (w : World) : Calls Tryz.prog 146 #[.int .u8 (b.toNat : Int)] w fun e w' => e = .returned (.int .u8 (lowN b : Int)) ∧ w' = w := by
  have h := low_bits ⟨b.toNat, b.toNat_lt⟩
  simp only [UInt8.ofNat_toNat] at h
  go_enter Tryz.func146, Tryz.ntmps146
  go_wp2
  go_ret
  exact ⟨by first | rfl | (simp [h]; done), rfl⟩
def hexV (b : UInt8) : Option Nat := if 48 ≤ b.toNat ∧ b.toNat ≤ 57 then some (b.toNat - 48) else if 97 ≤ lowN b ∧ lowN b ≤ 102 then some (lowN b - 87) else none
def phex (acc : Nat) : List UInt8 → Option Nat
  | [] => some acc
  | b :: r => match hexV b with
    | none => none
    | some d => if 4294967295 < acc * 16 + d then none else phex (acc * 16 + d) r
/-- How the reader ends. -/
def Ends (o : Option Nat) (e : Ending) : Prop := match o with
  | some u => e = .returned (.tuple #[.int .u64 (u : Int), .nilIface])
  | none => ∃ (n k : Int), e = .returned (.tuple #[.int .u64 n, .iface 145 (.int .i64 k)]) ∧ (k = 1 ∨ k = 2)
set_option maxHeartbeats 8000000 in
theorem inner (s : ByteArray) (hs : s.size ≤ 281474976710656) (w : World) :
    Calls Tryz.prog 127 #[.string s, .int .i64 16, .int .i64 32] w fun e w' => Ends (if s.data.toList = [] then none else phex 0 s.data.toList) e ∧ Below w.heap.size w w' := by
  by_cases h0 : s.data.toList = []
  · rw [if_pos h0]
    have hemp : (s.toList == ([] : List UInt8)) = true := by rw [ByteArray.toList_eq, h0]; rfl
    have hemp2 : s.toList.isEmpty = true := by rw [ByteArray.toList_eq, h0]; rfl
    clear h0
    go_enter Tryz.func127, Tryz.ntmps127
    go_wp2
    go_ret2
    exact ⟨⟨_, _, rfl, .inr rfl⟩, Below.refl _ _⟩
  · rw [if_neg h0]
    have hemp : (s.toList == ([] : List UInt8)) = false := by rw [beq_eq_false_iff_ne, ByteArray.toList_eq]; exact h0
    have hemp2 : s.toList.isEmpty = false := by rw [ByteArray.toList_eq]; simpa using h0
    have hcv := Lib.run_convert_string_bytes (P := Tryz.prog) w 9 22 5 s (u := .string) Tryz.underlying9 Tryz.underlying22 Tryz.underlying5
    have hB : ∀ j, j < s.size → (Lib.bytesWorld w 5 s).cell? ⟨w.heap.size, j, none⟩ = some (.int .u8 (s.data.toList.getD j 0).toNat) := fun j hj => Lib.bytesWorld_cell w 5 s j hj
    have hbel := Lib.bytesWorld_below w 5 s
    obtain ⟨W1, hW1⟩ : ∃ W1, W1 = Lib.bytesWorld w 5 s := ⟨_, rfl⟩
    rw [← hW1] at hcv hB hbel
    have HB := Aside0.mk hB
    have HBel := Aside0.mk hbel
    have HS := Aside0.mk hs
    clear hW1 hB hbel h0 hs
    go_enter Tryz.func127, Tryz.ntmps127
    go_wp2_with fail
    go_loopg [12, 13, 101] s.size (fun kq v12 v13 v101 w' => ∃ (i acc : Nat), v12 = .bool false ∧ v13 = .int .u64 (acc : Int) ∧ v101 = .int .i64 (i : Int) ∧ Aside0 (i + kq = s.size ∧ acc ≤ 4294967295) ∧ Aside0 (phex acc (s.data.toList.drop i) = phex 0 s.data.toList) ∧ w' = W1)
    case atStart => exact ⟨0, 0, rfl, rfl, rfl, ⟨by omega, by omega⟩, ⟨by rw [List.drop_zero]⟩, rfl⟩
    case round =>
      obtain ⟨i, acc, rfl, rfl, rfl, HI, HP, rfl⟩ := hrel
      clear hcv
      by_cases hi : i < s.size
      · have hil : decide ((i : Int) < (s.size : Int)) = true := by rw [decide_eq_true_iff]; omega
        have hi1 : IntKind.i64.wrap ((i : Int) + 1) = ((i + 1 : Nat) : Int) := by rw [IntKind.wrap_i64]; have := HS.out; omega
        have hi1r : Value.int IntKind.i64 (IntKind.i64.wrap ((i : Int) + 1)) = Value.int IntKind.i64 ((i + 1 : Nat) : Int) := by rw [hi1]
        have hlen : i < s.data.toList.length := by rw [Array.length_toList]; exact hi
        obtain ⟨b, hb⟩ : ∃ b, b = s.data.toList[i] := ⟨_, rfl⟩
        have hcell : wr.cell? ⟨w.heap.size, i, none⟩ = some (.int .u8 (b.toNat : Int)) := by
          rw [hb, HB.out i hi, List.getD, List.getElem?_eq_getElem hlen]; rfl
        have hdrop : s.data.toList.drop i = b :: s.data.toList.drop (i + 1) := by rw [hb]; exact List.drop_eq_getElem_cons hlen
        replace HP := Aside0.mk (hdrop ▸ HP.out : phex acc (b :: s.data.toList.drop (i + 1)) = phex 0 s.data.toList)
        have hb256 := b.toNat_lt
        clear hb hlen hdrop
        by_cases hA : 48 ≤ b.toNat ∧ b.toNat ≤ 57
        · obtain ⟨d, hd⟩ : ∃ d, d = b.toNat - 48 := ⟨_, rfl⟩
          have a1 : ((b.toNat : Int) == 95) = false := by rw [beq_eq_false_iff_ne]; omega
          have a2 : decide ((48 : Int) ≤ (b.toNat : Int)) = true := by rw [decide_eq_true_iff]; omega
          have a3 : decide ((b.toNat : Int) ≤ 57) = true := by rw [decide_eq_true_iff]; omega
          have a4 : IntKind.u8.wrap ((b.toNat : Int) - 48) = (d : Int) := by rw [IntKind.wrap_u8]; omega
          have hdm : d ≤ 35 := by omega
          by_cases hd16 : 16 ≤ d
          · have g1 : decide ((16 : Int) ≤ (d : Int)) = true := by rw [decide_eq_true_iff]; omega
            have g2 : decide ((d : Int) ≥ 16) = true := g1
            have HR : Aside0 (phex 0 s.data.toList = none) := ⟨by rw [← HP.out, phex, show hexV b = none from absurd hd16 (by omega)]⟩
            clear hd hdm hA hb256
            go_wp2_with (go_at_call 146; refine (lower b _).mono ?_; rintro e w' ⟨rfl, rfl⟩)
            go_ret2
            exact ⟨by rw [HR.out]; exact ⟨_, _, rfl, .inr rfl⟩, HBel.out⟩
          · have g1 : decide ((16 : Int) ≤ (d : Int)) = false := by rw [decide_eq_false_iff_not]; omega
            have g3 : decide ((1152921504606846976 : Int) ≤ (acc : Int)) = false := by rw [decide_eq_false_iff_not]; have := HI.out; omega
            have g4 : IntKind.u64.wrap ((acc : Int) * 16) = ((acc * 16 : Nat) : Int) := by rw [IntKind.wrap_u64]; have := HI.out; omega
            have g5 : IntKind.u64.wrap (d : Int) = (d : Int) := by rw [IntKind.wrap_u64]; omega
            have g6 : IntKind.u64.wrap (((acc * 16 : Nat) : Int) + (d : Int)) = ((acc * 16 + d : Nat) : Int) := by rw [IntKind.wrap_u64]; have := HI.out; omega
            have g7 : decide (((acc * 16 + d : Nat) : Int) < ((acc * 16 : Nat) : Int)) = false := by rw [decide_eq_false_iff_not]; omega
            have g7n : (acc * 16 ≤ acc * 16 + d) = True := eq_true (by omega)
            have g7m : (acc * 16 + d < acc * 16) = False := eq_false (by omega)
            have hv : hexV b = some d := by unfold hexV; rw [if_pos hA, hd]
            have HV := Aside0.mk hv
            obtain ⟨m16, hm16⟩ : ∃ m : Nat, m = acc * 16 := ⟨_, rfl⟩
            obtain ⟨n1, hn1⟩ : ∃ m : Nat, m = acc * 16 + d := ⟨_, rfl⟩
            rw [← hm16] at g4 g6 g7 g7n g7m
            have hn1' := hn1
            rw [← hm16] at hn1'
            rw [← hn1'] at g6 g7 g7n g7m
            have HN := Aside0.mk (And.intro hm16 hn1)
            clear hm16 hn1 hn1' hv
            by_cases hbig : 4294967295 < n1
            · have g8 : decide ((n1 : Int) > 4294967295) = true := by rw [decide_eq_true_iff]; omega
              have g9 : decide ((4294967295 : Int) < (n1 : Int)) = true := g8
              have HR : Aside0 (phex 0 s.data.toList = none) := ⟨by rw [← HP.out, phex, HV.out]; exact if_pos (by rw [← HN.out.2]; exact hbig)⟩
              clear hd hdm hA hb256 hbig hd16
              go_wp2_with (go_at_call 146; refine (lower b _).mono ?_; rintro e w' ⟨rfl, rfl⟩)
              go_ret2
              exact ⟨by rw [HR.out]; exact ⟨_, _, rfl, .inl rfl⟩, HBel.out⟩
            · have g8 : decide ((n1 : Int) > 4294967295) = false := by rw [decide_eq_false_iff_not]; omega
              have g9 : decide ((4294967295 : Int) < (n1 : Int)) = false := g8
              have HR : Aside0 (phex n1 (s.data.toList.drop (i + 1)) = phex 0 s.data.toList) := ⟨by rw [← HP.out, phex, HV.out]; simp only []; rw [if_neg (by rw [← HN.out.2]; exact hbig), ← HN.out.2]⟩
              have HL := Aside0.mk (show n1 ≤ 4294967295 by omega)
              clear hd hdm hA hb256 hbig hd16
              go_wp2_with (go_at_call 146; refine (lower b _).mono ?_; rintro e w' ⟨rfl, rfl⟩)
              cases gk with
              | zero => exact absurd hi (by have := HI.out; omega)
              | succ k1 =>
                go_roundg k1
                case measure => omega
                case rel => exact ⟨i + 1, n1, rfl, rfl, rfl, ⟨by have := HI.out; omega, HL.out⟩, HR, rfl⟩
        · by_cases hL : 97 ≤ lowN b ∧ lowN b ≤ 122
          · have h64 := low_big hL.1
            have a2 : decide ((48 : Int) ≤ (b.toNat : Int)) = true := by rw [decide_eq_true_iff]; omega
            have a2b : decide ((b.toNat : Int) ≤ 57) = false := by rw [decide_eq_false_iff_not]; omega
            clear h64
            obtain ⟨d, hd⟩ : ∃ d, d = lowN b - 87 := ⟨_, rfl⟩
            have hb95 : b ≠ 95 := by rintro rfl; exact absurd hL.2 (by decide)
            have a1 : ((b.toNat : Int) == 95) = false := by rw [beq_eq_false_iff_ne]; intro h; exact hb95 (UInt8.toNat_inj.1 (by show b.toNat = 95; omega))
            have a3 : decide ((97 : Int) ≤ (lowN b : Int)) = true := by rw [decide_eq_true_iff]; omega
            have a5 : decide ((lowN b : Int) ≤ 122) = true := by rw [decide_eq_true_iff]; omega
            have a4 : IntKind.u8.wrap ((lowN b : Int) - 97) = (lowN b : Int) - 97 := by rw [IntKind.wrap_u8]; omega
            have a6 : IntKind.u8.wrap ((lowN b : Int) - 97 + 10) = (d : Int) := by rw [IntKind.wrap_u8]; omega
            have hdm : d ≤ 35 := by omega
            by_cases hd16 : 16 ≤ d
            · have g1 : decide ((16 : Int) ≤ (d : Int)) = true := by rw [decide_eq_true_iff]; omega
              have g2 : decide ((d : Int) ≥ 16) = true := g1
              have HR : Aside0 (phex 0 s.data.toList = none) := ⟨by rw [← HP.out, phex, show hexV b = none from by unfold hexV; rw [if_neg hA, if_neg (by omega)]]⟩
              clear hd hdm hA hL hb95 hb256
              go_wp2_with (go_at_call 146; refine (lower b _).mono ?_; rintro e w' ⟨rfl, rfl⟩)
              go_ret2
              exact ⟨by rw [HR.out]; exact ⟨_, _, rfl, .inr rfl⟩, HBel.out⟩
            · have g1 : decide ((16 : Int) ≤ (d : Int)) = false := by rw [decide_eq_false_iff_not]; omega
              have g3 : decide ((1152921504606846976 : Int) ≤ (acc : Int)) = false := by rw [decide_eq_false_iff_not]; have := HI.out; omega
              have g4 : IntKind.u64.wrap ((acc : Int) * 16) = ((acc * 16 : Nat) : Int) := by rw [IntKind.wrap_u64]; have := HI.out; omega
              have g5 : IntKind.u64.wrap (d : Int) = (d : Int) := by rw [IntKind.wrap_u64]; omega
              have g6 : IntKind.u64.wrap (((acc * 16 : Nat) : Int) + (d : Int)) = ((acc * 16 + d : Nat) : Int) := by rw [IntKind.wrap_u64]; have := HI.out; omega
              have g7 : decide (((acc * 16 + d : Nat) : Int) < ((acc * 16 : Nat) : Int)) = false := by rw [decide_eq_false_iff_not]; omega
              have g7n : (acc * 16 ≤ acc * 16 + d) = True := eq_true (by omega)
              have g7m : (acc * 16 + d < acc * 16) = False := eq_false (by omega)
              have hv : hexV b = some d := by unfold hexV; rw [if_neg hA, if_pos (by omega), hd]
              have HV := Aside0.mk hv
              obtain ⟨m16, hm16⟩ : ∃ m : Nat, m = acc * 16 := ⟨_, rfl⟩
              obtain ⟨n1, hn1⟩ : ∃ m : Nat, m = acc * 16 + d := ⟨_, rfl⟩
              rw [← hm16] at g4 g6 g7 g7n g7m
              have hn1' := hn1
              rw [← hm16] at hn1'
              rw [← hn1'] at g6 g7 g7n g7m
              have HN := Aside0.mk (And.intro hm16 hn1)
              clear hm16 hn1 hn1' hv
              by_cases hbig : 4294967295 < n1
              · have g8 : decide ((n1 : Int) > 4294967295) = true := by rw [decide_eq_true_iff]; omega
                have g9 : decide ((4294967295 : Int) < (n1 : Int)) = true := g8
                have HR : Aside0 (phex 0 s.data.toList = none) := ⟨by rw [← HP.out, phex, HV.out]; exact if_pos (by rw [← HN.out.2]; exact hbig)⟩
                clear hd hdm hA hL hb95 hb256 hbig hd16
                go_wp2_with (go_at_call 146; refine (lower b _).mono ?_; rintro e w' ⟨rfl, rfl⟩)
                go_ret2
                exact ⟨by rw [HR.out]; exact ⟨_, _, rfl, .inl rfl⟩, HBel.out⟩
              · have g8 : decide ((n1 : Int) > 4294967295) = false := by rw [decide_eq_false_iff_not]; omega
                have g9 : decide ((4294967295 : Int) < (n1 : Int)) = false := g8
                have HR : Aside0 (phex n1 (s.data.toList.drop (i + 1)) = phex 0 s.data.toList) := ⟨by rw [← HP.out, phex, HV.out]; simp only []; rw [if_neg (by rw [← HN.out.2]; exact hbig), ← HN.out.2]⟩
                have HL := Aside0.mk (show n1 ≤ 4294967295 by omega)
                clear hd hdm hA hL hb95 hb256 hbig hd16
                go_wp2_with (go_at_call 146; refine (lower b _).mono ?_; rintro e w' ⟨rfl, rfl⟩)
                cases gk with
                | zero => exact absurd hi (by have := HI.out; omega)
                | succ k1 =>
                  go_roundg k1
                  case measure => omega
                  case rel => exact ⟨i + 1, n1, rfl, rfl, rfl, ⟨by have := HI.out; omega, HL.out⟩, HR, rfl⟩
          · have hno : hexV b = none := by unfold hexV; rw [if_neg hA, if_neg (by omega)]
            have HR : Aside0 (phex 0 s.data.toList = none) := ⟨by rw [← HP.out, phex, hno]⟩
            by_cases h48 : 48 ≤ b.toNat
            · have a8 : decide ((48 : Int) ≤ (b.toNat : Int)) = true := by rw [decide_eq_true_iff]; omega
              have a9 : decide ((b.toNat : Int) ≤ 57) = false := by rw [decide_eq_false_iff_not]; omega
              by_cases h97 : 97 ≤ lowN b
              · have b1 : decide ((97 : Int) ≤ (lowN b : Int)) = true := by rw [decide_eq_true_iff]; omega
                have b2 : decide ((lowN b : Int) ≤ 122) = false := by rw [decide_eq_false_iff_not]; omega
                by_cases h95 : (b.toNat : Int) = 95
                · have b3 : ((b.toNat : Int) == 95) = true := beq_iff_eq.2 h95
                  clear hno hA hL hb256 h48 h97 h95
                  go_wp2_with (go_at_call 146; refine (lower b _).mono ?_; rintro e w' ⟨rfl, rfl⟩)
                  go_ret2
                  exact ⟨by rw [HR.out]; exact ⟨_, _, rfl, .inr rfl⟩, HBel.out⟩
                · have b3 : ((b.toNat : Int) == 95) = false := beq_eq_false_iff_ne.2 h95
                  clear hno hA hL hb256 h48 h97 h95
                  go_wp2_with (go_at_call 146; refine (lower b _).mono ?_; rintro e w' ⟨rfl, rfl⟩)
                  go_ret2
                  exact ⟨by rw [HR.out]; exact ⟨_, _, rfl, .inr rfl⟩, HBel.out⟩
              · have b1 : decide ((97 : Int) ≤ (lowN b : Int)) = false := by rw [decide_eq_false_iff_not]; omega
                have b3 : ((b.toNat : Int) == 95) = false := by
                  rw [beq_eq_false_iff_ne]; intro h
                  have : b = 95 := UInt8.toNat_inj.1 (by show b.toNat = 95; omega)
                  subst this
                  exact h97 (by decide)
                clear hno hA hL hb256 h48 h97
                go_wp2_with (go_at_call 146; refine (lower b _).mono ?_; rintro e w' ⟨rfl, rfl⟩)
                go_ret2
                exact ⟨by rw [HR.out]; exact ⟨_, _, rfl, .inr rfl⟩, HBel.out⟩
            · have a8 : decide ((48 : Int) ≤ (b.toNat : Int)) = false := by rw [decide_eq_false_iff_not]; omega
              have b3 : ((b.toNat : Int) == 95) = false := by rw [beq_eq_false_iff_ne]; omega
              by_cases h97 : 97 ≤ lowN b
              · have b1 : decide ((97 : Int) ≤ (lowN b : Int)) = true := by rw [decide_eq_true_iff]; omega
                have b2 : decide ((lowN b : Int) ≤ 122) = false := by rw [decide_eq_false_iff_not]; omega
                clear hno hA hL hb256 h48 h97
                go_wp2_with (go_at_call 146; refine (lower b _).mono ?_; rintro e w' ⟨rfl, rfl⟩)
                go_ret2
                exact ⟨by rw [HR.out]; exact ⟨_, _, rfl, .inr rfl⟩, HBel.out⟩
              · have b1 : decide ((97 : Int) ≤ (lowN b : Int)) = false := by rw [decide_eq_false_iff_not]; omega
                clear hno hA hL hb256 h48 h97
                go_wp2_with (go_at_call 146; refine (lower b _).mono ?_; rintro e w' ⟨rfl, rfl⟩)
                go_ret2
                exact ⟨by rw [HR.out]; exact ⟨_, _, rfl, .inr rfl⟩, HBel.out⟩
      · have hil : decide ((i : Int) < (s.size : Int)) = false := by rw [decide_eq_false_iff_not]; omega
        have hfin : Aside0 (phex 0 s.data.toList = some acc) := ⟨by
          rw [← HP.out, List.drop_of_length_le (by rw [Array.length_toList]; have := HI.out; show s.size ≤ i; omega), phex]⟩
        have hiln : (i < s.size) = False := eq_false hi
        have hile : (s.size ≤ i) = True := eq_true (Nat.le_of_not_lt hi)
        clear hi
        go_wp2
        go_ret2
        exact ⟨by rw [hfin.out]; exact rfl, HBel.out⟩
theorem phex_le : ∀ (l : List UInt8) (acc u : Nat), acc ≤ 4294967295 → phex acc l = some u → u ≤ 4294967295
  | [], acc, u, h0, h => by
    simp only [phex] at h
    injection h with h
    omega
  | b :: r, acc, u, h0, h => by
    simp only [phex] at h
    split at h
    · cases h
    · split at h
      · cases h
      · exact phex_le r _ u (by omega) h
def rdH (l : List UInt8) : Option Nat := if l = [] then none else phex 0 l
theorem rdH_le {l : List UInt8} {u : Nat} (h : rdH l = some u) : u < 4294967296 := by
  unfold rdH at h
  split at h
  · cases h
  · have := phex_le l 0 u (by omega) h
    omega
theorem toErr (fn s : ByteArray) (hs : s.size ≤ 281474976710656) (k : Int) (hk : k = 1 ∨ k = 2) (w : World) (h : Atoi.Tab w) :
    Calls Tryz.prog 128 #[.string fn, .string s, .int .i64 16, .int .i64 32, .iface 145 (.int .i64 k)] w fun e w' => (∃ t N, e = .returned (.iface t (.pointer (some ⟨N, 0, none⟩)))) ∧ Below w.heap.size w w' := by
  obtain ⟨_, ⟨t1, p1, h1⟩, t2, p2, h2⟩ := h
  rcases hk with rfl | rfl
  · refine (Any.strconv_toError_range { Atoi.laysLaysC172 with } fn s 16 32 _ w hs h2 (Or.inr ⟨t2, p2, rfl⟩)).mono ?_
    rintro e w' ⟨N, he, _, _, hb⟩
    exact ⟨⟨_, N, he⟩, hb⟩
  · refine (Any.strconv_toError_syntax { Atoi.laysLaysC172 with } fn s 16 32 _ w hs h1 (Or.inr ⟨t1, p1, rfl⟩)).mono ?_
    rintro e w' ⟨N, he, _, _, hb⟩
    exact ⟨⟨_, N, he⟩, hb⟩
theorem okP (s : ByteArray) (hs : s.size ≤ 281474976710656) (u : Nat) (hR : rdH s.data.toList = some u) (w : World) :
    Calls Tryz.prog 103 #[.string s, .int .i64 16, .int .i64 32] w fun e w' => e = .returned (.tuple #[.int .u64 (u : Int), .nilIface]) ∧ Below w.heap.size w w' := by
  have hi := inner s hs w
  rw [show (if s.data.toList = [] then none else phex 0 s.data.toList) = some u from hR] at hi
  go_enter Tryz.func103, Tryz.ntmps103
  go_wp2_with (go_at_call 127; refine hi.mono ?_; rintro e w1 ⟨he, hb⟩; obtain rfl : e = .returned (.tuple #[.int .u64 (u : Int), .nilIface]) := he)
  go_ret2
  exact ⟨rfl, hb⟩
theorem badP (s : ByteArray) (hs : s.size ≤ 281474976710656) (hR : rdH s.data.toList = none) (w : World) (h : Atoi.Tab w) :
    Calls Tryz.prog 103 #[.string s, .int .i64 16, .int .i64 32] w fun e w' => (∃ n t N, e = .returned (.tuple #[.int .u64 n, .iface t (.pointer (some ⟨N, 0, none⟩))])) ∧ Below w.heap.size w w' := by
  have hi := inner s hs w
  rw [show (if s.data.toList = [] then none else phex 0 s.data.toList) = none from hR] at hi
  go_enter Tryz.func103, Tryz.ntmps103
  go_wp2_with (first | (go_at_call 127; refine hi.mono ?_; rintro e w1 ⟨⟨n, k, rfl, hk⟩, hb⟩) | (go_at_call 128; refine (toErr _ s hs k hk _ (Atoi.tab_at h hb)).mono ?_; rintro e w2 ⟨⟨t, N, rfl⟩, hb2⟩; have hb3 := hb.trans (hb2.mono hb.size); clear hb2))
  go_ret2
  exact ⟨⟨_, _, _, rfl⟩, hb3⟩
def v (l : List UInt8) : Int × Bool := match rdH l with
  | some u => if Hex.hexL u = l then ((u : Int), true) else (0, false)
  | none => (0, false)
/-- impl.ReadHex. -/
theorem readHex (s : ByteArray) (hs : s.size ≤ 281474976710656) (w : World) (h : Atoi.Tab w) :
    Calls Tryz.prog 79 #[.string s] w fun e w' => e = .returned (.tuple #[.int .u32 (v s.data.toList).1, .bool (v s.data.toList).2]) ∧ Below w.heap.size w w' := by
  unfold v
  cases hR : rdH s.data.toList with
  | none =>
    go_enter Tryz.func79, Tryz.ntmps79
    go_wp2_with (go_at_call 103; refine (badP s hs hR _ h).mono ?_; rintro e w1 ⟨⟨n_, t_, N_, rfl⟩, hb⟩)
    go_ret2
    exact ⟨rfl, hb⟩
  | some u =>
    have hu := rdH_le hR
    have hw : IntKind.u32.wrap (u : Int) = (u : Int) := by rw [IntKind.wrap_u32]; omega
    obtain ⟨t, ht⟩ : ∃ t : ByteArray, t = ⟨(Hex.hexL u).toArray⟩ := ⟨_, rfl⟩
    have htx := Hex.hexText u hu
    rw [← ht] at htx
    have hl : t.toList = Hex.hexL u := by rw [ByteArray.toList_eq, ht]
    by_cases c : Hex.hexL u = s.data.toList
    · have b4 : (t.toList == s.toList) = true := by rw [beq_iff_eq, hl, ByteArray.toList_eq]; exact c
      have b5 : (t.toList != s.toList) = false := by rw [bne, b4]; rfl
      have e1 : (if Hex.hexL u = s.data.toList then ((u : Int), true) else (0, false)) = ((u : Int), true) := if_pos c
      simp only [e1]
      have HR := Aside0.mk hR
      clear c e1 ht hl hR
      go_enter Tryz.func79, Tryz.ntmps79
      go_wp2_with (first | (go_at_call 103; refine (okP s hs u HR.out _).mono ?_; rintro e w1 ⟨rfl, hb⟩) | (go_at_call 45; refine (htx _ (Atoi.tab_at h hb).1.2).mono ?_; rintro e w2 ⟨rfl, hb2⟩; have hb3 := hb.trans (hb2.mono hb.size); clear hb2))
      go_ret2
      exact ⟨rfl, hb3⟩
    · have b4 : (t.toList == s.toList) = false := by rw [beq_eq_false_iff_ne, hl, ByteArray.toList_eq]; exact c
      have b5 : (t.toList != s.toList) = true := by rw [bne, b4]; rfl
      have e1 : (if Hex.hexL u = s.data.toList then ((u : Int), true) else (0, false)) = ((0 : Int), false) := if_neg c
      simp only [e1]
      have HR := Aside0.mk hR
      clear c e1 ht hl hR
      go_enter Tryz.func79, Tryz.ntmps79
      go_wp2_with (first | (go_at_call 103; refine (okP s hs u HR.out _).mono ?_; rintro e w1 ⟨rfl, hb⟩) | (go_at_call 45; refine (htx _ (Atoi.tab_at h hb).1.2).mono ?_; rintro e w2 ⟨rfl, hb2⟩; have hb3 := hb.trans (hb2.mono hb.size); clear hb2))
      go_ret2
      exact ⟨rfl, hb3⟩
end Go.Proofs.YtfjmpdcflnaogaaGreatDoor.ParseHex
