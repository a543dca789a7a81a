/-
The law FnDec holds of the printed plain functions, for all arguments that the printed bounds allow.
-/
import Derived.Test.YtamdgigcngeanaaDoorQFnDecx1
import Derived.Test.YtamdgigcngeanaaDoorQFnDecx2
import Derived.Test.YtamdgigcngeanaaDoorTools
import Derived.Test.YtamdgigcngeanaaDoorLetters
import Derived.Test.YtamdgigcngeanaaDoorHeads
import Derived.Test.YtamdgigcngeanaaDoorSpots
import Derived.Test.YtamdgigcngeanaaDoorNames
import Derived.Test.YtamdgigcngeanaaDoorItems
import Derived.Test.YtamdgigcngeanaaDoorRound
import Derived.Test.YtamdgigcngeanaaDoorDraws
import Derived.Test.YtamdgigcngeanaaDoorCells
import Derived.Test.YtamdgigcngeanaaDoorDecs
import Derived.Test.YtamdgigcngeanaaDoorReadDecs
namespace Go.Proofs.YtamdgigcngeanaaDoor.Pure
open Go.RowKit Go.Proofs.YtamdgigcngeanaaDoor.QFnDec Go.Proofs.YtamdgigcngeanaaDoorW.PrintWords Go.Proofs.YtamdgigcngeanaaDoorW.PrintLast Go.Proofs.YtamdgigcngeanaaDoorW.PrintMore Go.Proofs.YtamdgigcngeanaaDoor.Tools Go.Proofs.YtamdgigcngeanaaDoor.Plain
set_option linter.unusedVariables false

/-! ### hexL -/
/-- The digits, none for nought. -/
def hexN (u : Nat) : List UInt8 := if u = 0 then [] else Hex.hexL u
theorem hexN_step (u : Nat) (h : u ≠ 0) : hexN u = hexN (u / 16) ++ [Hex.hexDig (u % 16)] := by
  unfold hexN
  rw [if_neg h]
  by_cases h1 : u < 16
  · rw [Hex.hexL_small h1, if_pos (by omega), Nat.mod_eq_of_lt h1]; rfl
  · rw [Hex.hexL_step h1, if_neg (by omega)]
theorem hex_cut (d : Nat) (h : d < 16) : (⟨#[48, 49, 50, 51, 52, 53, 54, 55, 56, 57, 97, 98, 99, 100, 101, 102]⟩ : ByteArray).extract d (d + 1) = toB [Hex.hexDig d] := by
  rw [extract_eq]
  apply congrArg toB
  match d, h with
  | 0, _ => rfl
  | 1, _ => rfl
  | 2, _ => rfl
  | 3, _ => rfl
  | 4, _ => rfl
  | 5, _ => rfl
  | 6, _ => rfl
  | 7, _ => rfl
  | 8, _ => rfl
  | 9, _ => rfl
  | 10, _ => rfl
  | 11, _ => rfl
  | 12, _ => rfl
  | 13, _ => rfl
  | 14, _ => rfl
  | 15, _ => rfl
  | n + 16, h => omega
theorem tmod16 (u : Nat) : Int.tmod (u : Int) 16 = ((u % 16 : Nat) : Int) := rfl
theorem tdiv16 (u : Nat) : Int.tdiv (u : Int) 16 = ((u / 16 : Nat) : Int) := rfl

/-! ### impl_HexText -/
theorem impl_HexText_eq (u : Nat) (h1 : u ≤ 4294967295) : impl_HexText.f (u : Int) = some (toB (Hex.hexL u)) := if_pos ⟨by omega, by omega⟩

/-! ### spec_DecText -/
theorem spec_DecText_l0 (x0 : Int) (n : Nat) : ∀ (m : Int) (acc : List UInt8), m.natAbs < 10 ^ n → acc.length + n ≤ 100 → -9223372036854775808 ≤ m → m ≤ 9223372036854775807 →
    Ev (fun k => spec_DecText.l0 k x0 (toB acc) m) (toB ((if x0 < 0 then [45] else []) ++ decL m.natAbs ++ acc)) := by
  have stop : ∀ acc : List UInt8, acc.length ≤ 100 → Ev (fun k => spec_DecText.l0 k x0 (toB acc) 0) (toB ((if x0 < 0 then [45] else []) ++ decL 0 ++ acc)) := by
    intro acc ha
    refine Ev.step (fun k => by rw [spec_DecText.l0]) ?_
    refine ev_pos rfl (ev_ite (fun h => ev_pos (by rw [toB_size]; omega) (ev_ret ?_)) (fun h => ev_ret ?_))
    · rw [if_pos h, show (⟨#[45]⟩ : ByteArray) = toB [45] from rfl, toB_append']; rfl
    · rw [if_neg h]; rfl
  induction n with
  | zero =>
    intro m acc hm ha h0 h1
    obtain rfl : m = 0 := by rw [Nat.pow_zero] at hm; omega
    exact stop acc (by omega)
  | succ n ih =>
    intro m acc hm ha h0 h1
    by_cases hz : m = 0
    · subst hz; exact stop acc (by omega)
    rw [Nat.pow_succ] at hm
    obtain ⟨u, hu⟩ : ∃ u, u = m.natAbs := ⟨_, rfl⟩
    have hd : u % 10 < 10 := Nat.mod_lt _ (by decide)
    have hcut := dec_cut (u % 10) hd
    have hgo : ∀ m' : Int, m'.natAbs = u / 10 → -9223372036854775808 ≤ m' → m' ≤ 9223372036854775807 → Ev (fun k => spec_DecText.l0 k x0 (toB (UInt8.ofNat (48 + u % 10) :: acc)) m') (toB ((if x0 < 0 then [45] else []) ++ decL m.natAbs ++ acc)) := by
      intro m' hm' g0 g1
      have e := ih m' (UInt8.ofNat (48 + u % 10) :: acc) (by rw [hm']; omega) (by rw [List.length_cons]; omega) g0 g1
      rw [hm'] at e
      rw [← hu, decL_step u (by omega)]
      refine ev_to e ?_
      simp only [List.append_assoc, List.singleton_append]
    refine Ev.step (fun k => by rw [spec_DecText.l0]) ?_
    refine ev_neg hz ?_
    rcases Int.natAbs_eq m with e | e
    · rw [← hu] at e
      rw [e, tmod_pos, tdiv_pos, w64 (x := ((u % 10 : Nat) : Int) + 1) (by omega) (by omega), show ((u % 10 : Nat) : Int) + 1 = ((u % 10 + 1 : Nat) : Int) by omega, Int.toNat_natCast, Int.toNat_natCast, hcut, toB_append', toB_size, toB_size, w64 (x := ((u / 10 : Nat) : Int)) (by omega) (by omega)]
      refine ev_neg (by omega) (ev_pos (by omega) (ev_pos (by omega) (ev_pos (by omega) (ev_pos (by rw [List.length_singleton]; omega) ?_))))
      rw [e] at hgo
      exact hgo _ (by omega) (by omega) (by omega)
    · rw [← hu] at e
      by_cases hm0 : u % 10 = 0
      · rw [e, tmod_neg, tdiv_neg, w64 (x := -((u % 10 : Nat) : Int) + 1) (by omega) (by omega), show -((u % 10 : Nat) : Int) + 1 = ((u % 10 + 1 : Nat) : Int) by omega, show -((u % 10 : Nat) : Int) = ((u % 10 : Nat) : Int) by omega, Int.toNat_natCast, Int.toNat_natCast, hcut, toB_append', toB_size, toB_size, w64 (x := -((u / 10 : Nat) : Int)) (by omega) (by omega)]
        refine ev_neg (by omega) (ev_pos (by omega) (ev_pos (by omega) (ev_pos (by omega) (ev_pos (by rw [List.length_singleton]; omega) ?_))))
        rw [e] at hgo
        exact hgo _ (by omega) (by omega) (by omega)
      · rw [e, tmod_neg, tdiv_neg, w64 (x := - -((u % 10 : Nat) : Int)) (by omega) (by omega), Int.neg_neg, w64 (x := ((u % 10 : Nat) : Int) + 1) (by omega) (by omega), show ((u % 10 : Nat) : Int) + 1 = ((u % 10 + 1 : Nat) : Int) by omega, Int.toNat_natCast, Int.toNat_natCast, hcut, toB_append', toB_size, toB_size, w64 (x := -((u / 10 : Nat) : Int)) (by omega) (by omega)]
        refine ev_pos (by omega) (ev_pos (by omega) (ev_pos (by omega) (ev_pos (by omega) (ev_pos (by rw [List.length_singleton]; omega) ?_))))
        rw [e] at hgo
        exact hgo _ (by omega) (by omega) (by omega)
theorem spec_DecText_ev (n : Int) (h0 : -9223372036854775808 ≤ n) (h1 : n ≤ 9223372036854775807) : Ev (fun k => spec_DecText.f k n) (toB (Lib.itoa n)) := by
  refine ev_ite (fun h => ev_ret ?_) (fun h => ?_)
  · subst h
    rw [show Lib.itoa 0 = Lib.decDigits 0 from Lib.itoa_nonneg 0, Lib.decDigits_one (by decide)]; rfl
  · refine ev_to (spec_DecText_l0 n 20 n [] (by omega) (by decide) h0 h1) ?_
    rw [itoa_decL n h, List.append_nil]

/-! ### impl_DecText -/
theorem impl_DecText_eq (n : Int) (h0 : -9223372036854775808 ≤ n) (h1 : n ≤ 9223372036854775807) : impl_DecText.f n = some (toB (Lib.itoa n)) := if_pos ⟨h0, h1⟩

/-! ### laws_big -/
theorem laws_big_eq (l : List Int) : laws_big.f l = some (decide ((l.length : Int) > 1048576)) := rfl

/-! ### readHex -/
def hexS (b : UInt8) : Option Nat := if 48 ≤ b.toNat ∧ b.toNat ≤ 57 then some (b.toNat - 48) else if 97 ≤ b.toNat ∧ b.toNat ≤ 102 then some (b.toNat - 87) else none
def sfold (acc : Nat) : List UInt8 → Option Nat
  | [] => some acc
  | b :: r => match hexS b with
    | none => none
    | some d => sfold (acc * 16 + d) r
theorem sfold_snoc (b : UInt8) (l : List UInt8) : ∀ acc, sfold acc (l ++ [b]) = (sfold acc l).bind fun x => (hexS b).map fun d => x * 16 + d := by
  induction l with
  | nil => intro acc; simp only [List.nil_append, sfold]; cases hexS b <;> rfl
  | cons c l ih =>
    intro acc
    simp only [List.cons_append, sfold]
    cases hexS c with
    | none => rfl
    | some d => exact ih _
theorem hexS_dig (d : Nat) (h : d < 16) : hexS (Hex.hexDig d) = some d := by
  match d, h with
  | 0, _ => rfl
  | 1, _ => rfl
  | 2, _ => rfl
  | 3, _ => rfl
  | 4, _ => rfl
  | 5, _ => rfl
  | 6, _ => rfl
  | 7, _ => rfl
  | 8, _ => rfl
  | 9, _ => rfl
  | 10, _ => rfl
  | 11, _ => rfl
  | 12, _ => rfl
  | 13, _ => rfl
  | 14, _ => rfl
  | 15, _ => rfl
  | n + 16, h => omega
theorem sfold_hexL (u : Nat) : sfold 0 (Hex.hexL u) = some u := by
  induction u using Nat.strongRecOn with
  | _ u ih =>
    by_cases h : u < 16
    · rw [Hex.hexL_small h]
      simp only [sfold, hexS_dig u h]
      congr 1; omega
    · rw [Hex.hexL_step h, sfold_snoc, ih (u / 16) (by omega), hexS_dig _ (Nat.mod_lt _ (by decide))]
      simp only [Option.bind_some, Option.map_some]
      congr 1; omega
theorem hexL_len (k : Nat) : ∀ u, u < 16 ^ (k + 1) → (Hex.hexL u).length ≤ k + 1 ∧ 1 ≤ (Hex.hexL u).length := by
  induction k with
  | zero => intro u hu; rw [Hex.hexL_small (by simpa using hu)]; simp
  | succ k ih =>
    intro u hu
    by_cases h : u < 16
    · rw [Hex.hexL_small h]; simp
    · rw [Hex.hexL_step h, List.length_append, List.length_singleton]
      rw [Nat.pow_succ] at hu
      have := ih (u / 16) (by omega)
      omega
def isHex (l : List UInt8) : Prop := ∃ u, u < 4294967296 ∧ Hex.hexL u = l
open Classical in
noncomputable def hexR (l : List UInt8) : Int × Bool := if h : isHex l then ((Classical.choose h : Nat), true) else (0, false)
theorem hexL_inj {a b : Nat} (h : Hex.hexL a = Hex.hexL b) : a = b := by
  have e := sfold_hexL a
  rw [h, sfold_hexL b] at e
  exact (Option.some.inj e).symm
theorem hexR_of {u : Nat} (h : u < 4294967296) : hexR (Hex.hexL u) = ((u : Int), true) := by
  have hx : isHex (Hex.hexL u) := ⟨u, h, rfl⟩
  unfold hexR
  rw [dif_pos hx, hexL_inj (Classical.choose_spec hx).2]
theorem hexR_no {l : List UInt8} (h : ¬ isHex l) : hexR l = (0, false) := dif_neg h
/-- What the reading comes to behind so many digits. -/
def redH (l : List UInt8) (acc : Nat) (r : List UInt8) : Int × Bool := match sfold acc r with
  | none => (0, false)
  | some n => if Hex.hexL (n % 4294967296) = l then (((n % 4294967296 : Nat) : Int), true) else (0, false)
theorem redH_all (l : List UInt8) : redH l 0 l = hexR l := by
  unfold redH
  by_cases hx : isHex l
  · obtain ⟨u, hu, rfl⟩ := hx
    rw [sfold_hexL, hexR_of hu]
    simp only [Nat.mod_eq_of_lt hu, if_true]
  · rw [hexR_no hx]
    split
    · rfl
    · rename_i n _
      exact if_neg (fun e => hx ⟨n % 4294967296, Nat.mod_lt _ (by decide), e⟩)
theorem redH_dig (l : List UInt8) (acc d : Nat) (b : UInt8) (r : List UInt8) (h : hexS b = some d) : redH l acc (b :: r) = redH l (acc * 16 + d) r := by
  unfold redH
  simp only [sfold, h]
theorem redH_bad (l : List UInt8) (acc : Nat) (b : UInt8) (r : List UInt8) (h : hexS b = none) : redH l acc (b :: r) = (0, false) := by
  unfold redH
  simp only [sfold, h]

/-! ### impl_ReadHex -/
theorem hexV_dig (d : Nat) (h : d < 16) : ParseHex.hexV (Hex.hexDig d) = some d := by
  match d, h with
  | 0, _ => rfl
  | 1, _ => rfl
  | 2, _ => rfl
  | 3, _ => rfl
  | 4, _ => rfl
  | 5, _ => rfl
  | 6, _ => rfl
  | 7, _ => rfl
  | 8, _ => rfl
  | 9, _ => rfl
  | 10, _ => rfl
  | 11, _ => rfl
  | 12, _ => rfl
  | 13, _ => rfl
  | 14, _ => rfl
  | 15, _ => rfl
  | n + 16, h => omega
theorem phex_snoc (b : UInt8) (l : List UInt8) : ∀ acc, ParseHex.phex acc (l ++ [b]) = (ParseHex.phex acc l).bind fun x => ParseHex.phex x [b] := by
  induction l with
  | nil => intro acc; rfl
  | cons c l ih =>
    intro acc
    simp only [List.cons_append, ParseHex.phex]
    cases ParseHex.hexV c with
    | none => rfl
    | some d =>
      simp only []
      split
      · rfl
      · exact ih _
theorem phex_hexL (u : Nat) (hu : u < 4294967296) : ParseHex.phex 0 (Hex.hexL u) = some u := by
  induction u using Nat.strongRecOn with
  | _ u ih =>
    by_cases h : u < 16
    · rw [Hex.hexL_small h]
      simp only [ParseHex.phex, hexV_dig u h]
      rw [if_neg (by omega)]
      congr 1; omega
    · rw [Hex.hexL_step h, phex_snoc, ih (u / 16) (by omega) (by omega)]
      simp only [Option.bind_some, ParseHex.phex, hexV_dig _ (Nat.mod_lt u (by decide : 0 < 16))]
      rw [if_neg (by omega)]
      congr 1; omega
theorem impl_ReadHex_eq (l : List UInt8) (hl : l.length ≤ 281474976710656) : impl_ReadHex.f (toB l) = some (hexR l) := by
  unfold impl_ReadHex.f
  rw [toB_size, if_pos hl, toB_data]
  congr 1
  unfold ParseHex.v
  by_cases hx : isHex l
  · obtain ⟨u, hu, rfl⟩ := hx
    have hne : Hex.hexL u ≠ [] := by intro e; have := (hexL_len 7 u hu).2; rw [e] at this; simp at this
    rw [show ParseHex.rdH (Hex.hexL u) = some u by unfold ParseHex.rdH; rw [if_neg hne, phex_hexL u hu], hexR_of hu]
    exact if_pos rfl
  · rw [hexR_no hx]
    split
    · rename_i u h
      exact if_neg (fun e => hx ⟨u, ParseHex.rdH_le h, e⟩)
    · rfl

/-! ### impl_ReadDec -/
theorem impl_ReadDec_eq (l : List UInt8) (hl : l.length ≤ 281474976710656) : impl_ReadDec.f (toB l) = some (decR l) := by
  unfold impl_ReadDec.f
  rw [toB_size, if_pos hl, toB_data]
  congr 1
  unfold impl_ReadDec.v
  by_cases hd : isDec l
  · obtain ⟨n, hb, en⟩ := hd
    rw [← en, atoiAll_itoa hb.1 hb.2, decR_itoa hb.1 hb.2]
    exact if_pos ⟨hb, rfl⟩
  · rw [decR_no hd]
    split
    · rename_i v _
      exact if_neg (fun h => hd ⟨v, h.1, h.2⟩)
    · rfl

/-! ### spec_l01New -/
theorem spec_l01New_l0 (l : List Int) (hl : l.length ≤ 1048576) (d : Nat) : ∀ (i : Nat) (h : Int), i + d = l.length → ∃ h', Ev (fun k => spec_l01New.l0 k l h (i : Int)) (l, 0, h') := by
  induction d with
  | zero =>
    intro i h hi
    refine ⟨h, Ev.step (fun k => by rw [spec_l01New.l0]) ?_⟩
    exact ev_neg (by omega) (ev_ret rfl)
  | succ d ih =>
    intro i h hi
    by_cases h4 : (i : Int) < 4000
    · obtain ⟨h', e⟩ := ih (i + 1) (Go.bits .and .i64 (wrap64 ((wrap64 ((wrap64 (h * 131)) + (wrap64 (rd l i)))) + 7)) 1073741823) (by omega)
      refine ⟨h', Ev.step (fun k => by rw [spec_l01New.l0]) ?_⟩
      refine ev_pos (by omega) (ev_pos h4 (ev_pos (by omega) ?_))
      rw [w64 (x := (i : Int) + 1) (by omega) (by omega), show ((i : Int) + 1) = ((i + 1 : Nat) : Int) by omega]
      exact e
    · refine ⟨h, Ev.step (fun k => by rw [spec_l01New.l0]) ?_⟩
      exact ev_pos (by omega) (ev_neg h4 (ev_ret rfl))
theorem spec_l01New_ev (l : List Int) (hl : l.length ≤ 1048576) : ∃ h, Ev (fun k => spec_l01New.f k l) (l, 0, h) := spec_l01New_l0 l hl l.length 0 _ (by omega)

/-! ### spec_l01Byte -/
theorem spec_l01Byte_eq {b : List Int} {i : Int} (h : Int) (hc : Cur b i) : ∃ r i' h', spec_l01Byte.f b i h = some (r, i', h') ∧ 0 ≤ r ∧ r ≤ 255 ∧ Cur b i' := by
  obtain ⟨c0, c1, c2⟩ := hc
  unfold spec_l01Byte.f
  by_cases hlt : i < (b.length : Int)
  · rw [if_pos hlt, if_pos c1]
    have := and_255 (wrap64 ((Go.bits .and .i64 (Go.bits .xor .i64 ((wrap64 ((wrap64 (h * 6364136223846793005)) + 1442695040888963407)) / 8589934592) ((wrap64 ((wrap64 (h * 6364136223846793005)) + 1442695040888963407)) / 35184372088832)) 255) + (wrap64 (rd b i))))
    exact ⟨_, _, _, rfl, this.1, this.2, c0, by rw [w64 (by omega) (by omega)]; omega, by rw [w64 (by omega) (by omega)]; omega⟩
  · rw [if_neg hlt]
    have := and_255 (Go.bits .xor .i64 ((wrap64 ((wrap64 (h * 6364136223846793005)) + 1442695040888963407)) / 8589934592) ((wrap64 ((wrap64 (h * 6364136223846793005)) + 1442695040888963407)) / 35184372088832))
    exact ⟨_, _, _, rfl, this.1, this.2, c0, c1, c2⟩

/-! ### spec_l01Below -/
theorem spec_l01Below_eq {b : List Int} {i : Int} (h n : Int) (hc : Cur b i) (hn : 0 < n) : ∃ r i' h', spec_l01Below.f b i h n = some (r, i', h') ∧ 0 ≤ r ∧ r < n ∧ Cur b i' := by
  unfold spec_l01Below.f
  rw [if_neg (by omega)]
  by_cases h2 : n ≤ 256
  · obtain ⟨r, i1, h1, e, r0, r1, c1⟩ := spec_l01Byte_eq h hc
    have := tmod_range r0 hn
    rw [if_pos h2, e]
    simp only [Option.bind_some]
    rw [if_neg (by omega)]
    exact ⟨_, _, _, rfl, this.1, this.2, c1⟩
  · obtain ⟨x, i1, h1, e1, x0, x1, c1⟩ := spec_l01Byte_eq h hc
    obtain ⟨y, i2, h2', e2, y0, y1, c2⟩ := spec_l01Byte_eq h1 c1
    obtain ⟨z, i3, h3, e3, z0, z1, c3⟩ := spec_l01Byte_eq h2' c2
    obtain ⟨v, i4, h4, e4, v0, v1, c4⟩ := spec_l01Byte_eq h3 c3
    rw [if_neg h2, e1]
    simp only [Option.bind_some]
    rw [e2]
    simp only [Option.bind_some]
    rw [e3]
    simp only [Option.bind_some]
    rw [e4]
    simp only [Option.bind_some]
    rw [if_neg (by omega)]
    have e5 : (wrap64 ((wrap64 ((wrap64 ((wrap64 (x * 16777216)) + (wrap64 (y * 65536)))) + (wrap64 (z * 256)))) + v)) = x * 16777216 + y * 65536 + z * 256 + v := by
      rw [w64 (x := x * 16777216) (by omega) (by omega), w64 (x := y * 65536) (by omega) (by omega), w64 (x := z * 256) (by omega) (by omega), w64 (x := x * 16777216 + y * 65536) (by omega) (by omega), w64 (x := x * 16777216 + y * 65536 + z * 256) (by omega) (by omega), w64 (by omega) (by omega)]
    rw [e5]
    have := tmod_range (x := x * 16777216 + y * 65536 + z * 256 + v) (by omega) hn
    exact ⟨_, _, _, rfl, this.1, this.2, c4⟩

/-! ### spec_l01PickInt -/
theorem spec_l01PickInt_eq {b : List Int} {i : Int} (h : Int) (l : List Int) (hc : Cur b i) (hn : 0 < l.length) : ∃ r i' h', spec_l01PickInt.f b i h l = some (r, i', h') ∧ r ∈ l ∧ Cur b i' := by
  obtain ⟨r, i', h', e, r0, r1, c⟩ := spec_l01Below_eq h (l.length : Int) hc (by omega)
  unfold spec_l01PickInt.f
  rw [e]
  simp only [Option.bind_some]
  rw [if_pos r0, if_pos r1]
  exact ⟨_, _, _, rfl, rd_mem r0 r1, c⟩

/-! ### spec_DrawDecText -/
theorem spec_DrawDecText_ev (l : List Int) (hl : l.length ≤ 1048576) : ∃ r, Ev (fun k => spec_DrawDecText.f k l) r ∧ -9223372036854775808 ≤ r ∧ r ≤ 9223372036854775807 := by
  obtain ⟨h, e⟩ := spec_l01New_ev l hl
  obtain ⟨q, i1, h1, e1, q0, q1, c1⟩ := spec_l01Below_eq (b := l) (i := 0) h 100000 ⟨hl, by omega, by omega⟩ (by omega)
  obtain ⟨u, i2, h2, e2, u0, u1, c2⟩ := spec_l01Below_eq h1 1000 c1 (by omega)
  obtain ⟨r, i3, h3, e3, m3, c3⟩ := spec_l01PickInt_eq h2 (([0, 1, (-1), 10, 9999999999, (-9999999999), 10000000000, 9223372036854775807, (-9223372036854775808), q, wrap64 (-u)] : List Int)) c2 (by simp)
  refine ⟨r, ev_bind e (ev_bind (ev_eq e1) (ev_bind (ev_eq e2) (ev_bind (ev_eq e3) (ev_ret rfl)))), ?_⟩
  rw [w64 (by omega) (by omega)] at m3
  simp only [List.mem_cons, List.not_mem_nil, or_false] at m3
  omega

/-! ### spec_l01Word -/
theorem spec_l01Word_eq {b : List Int} {i : Int} (h : Int) (hc : Cur b i) : ∃ r i' h', spec_l01Word.f b i h = some (r, i', h') ∧ (0 ≤ r ∧ r ≤ 4294967295) ∧ Cur b i' := by
  obtain ⟨q, i1, h1, e1, q0, q1, c1⟩ := spec_l01Below_eq h 4 hc (by omega)
  unfold spec_l01Word.f
  rw [e1]
  simp only [Option.bind_some]
  by_cases g0 : q = 0
  · obtain ⟨r, i2, h2, e2, m2, c2⟩ := spec_l01PickInt_eq h1 (([0, 1, 2, 31, 32, 255, 256, 2147483647, 2147483648, 4294967295, 4294967294] : List Int)) c1 (by decide)
    rw [if_pos g0, e2]
    exact ⟨_, _, _, rfl, by simp only; omega, c2⟩
  by_cases g1 : q = 1
  · obtain ⟨r, i2, h2, e2, r0, r1, c2⟩ := spec_l01Below_eq h1 300 c1 (by omega)
    rw [if_neg g0, if_pos g1, e2]
    exact ⟨_, _, _, rfl, by simp only; omega, c2⟩
  · obtain ⟨r, i2, h2, e2, r0, r1, c2⟩ := spec_l01Below_eq h1 65536 c1 (by omega)
    obtain ⟨s, i3, h3, e3, s0, s1, c3⟩ := spec_l01Below_eq h2 65536 c2 (by omega)
    rw [if_neg g0, if_neg g1, e2]
    simp only [Option.bind_some]
    rw [e3]
    exact ⟨_, _, _, rfl, by simp only; omega, c3⟩

/-! ### spec_DrawHexText -/
theorem spec_DrawHexText_ev (l : List Int) (hl : l.length ≤ 1048576) : ∃ r, Ev (fun k => spec_DrawHexText.f k l) r ∧ 0 ≤ r ∧ r ≤ 4294967295 := by
  obtain ⟨h, e⟩ := spec_l01New_ev l hl
  obtain ⟨r, i1, h1, e1, ⟨r0, r1⟩, c1⟩ := spec_l01Word_eq (b := l) (i := 0) h ⟨hl, by omega, by omega⟩
  exact ⟨r, ev_bind e (ev_bind (ev_eq e1) (ev_ret rfl)), r0, r1⟩

/-! ### FnDec -/
theorem FnDec : laws_FnDec.Pure := by
  intro l hl hz hw
  refine Ev.rounds (r := true) ?_
  refine ev_bind (ev_eq (laws_big_eq l)) ?_
  by_cases hs : (l.length : Int) > 1048576
  · exact ev_pos (decide_eq_true hs) (ev_ret rfl)
  refine ev_neg (by simpa using hs) ?_
  obtain ⟨n, e1, n0, n1⟩ := spec_DrawDecText_ev l (by omega)
  obtain ⟨x, e2, x0, x1⟩ := spec_DrawHexText_ev l (by omega)
  obtain ⟨u, rfl⟩ := Int.eq_ofNat_of_zero_le x0
  have hu : u < 4294967296 := by omega
  have hd := Lib.itoa_length_le n n0 n1
  have hh := (hexL_len 7 u hu).1
  refine ev_bind e1 (ev_bind (ev_eq (impl_DecText_eq n n0 n1)) (ev_bind (ev_eq (impl_ReadDec_eq _ (by omega))) (ev_bind e2 (ev_bind (ev_eq (impl_HexText_eq u (by omega))) (ev_bind (ev_eq (impl_ReadHex_eq _ (by omega))) (ev_bind (spec_DecText_ev n n0 n1) (ev_pos rfl ?_)))))))
  rw [hexR_of hu]
  refine ev_pos rfl (ev_pos rfl ?_)
  by_cases hb : -9999999999 ≤ n ∧ n ≤ 9999999999
  · rw [decR_itoa hb.1 hb.2]
    refine ev_pos hb.1 (ev_pos ?_ (ev_pos rfl (ev_ret ?_)))
    · rw [beq_iff_eq]; exact (decide_eq_true hb.2).symm
    · rw [beq_iff_eq]
  · have hno : ¬ isDec (Lib.itoa n) := by
      rintro ⟨m, hm, e⟩
      rw [itoa_inj e] at hm
      exact hb hm
    rw [decR_no hno]
    refine ev_ite (fun h => ev_pos ?_ (ev_neg (by simp) (ev_ret rfl))) (fun h => ev_pos rfl (ev_neg (by simp) (ev_ret rfl)))
    rw [beq_iff_eq]
    exact (decide_eq_false (fun h2 => hb ⟨h, h2⟩)).symm

end Go.Proofs.YtamdgigcngeanaaDoor.Pure
