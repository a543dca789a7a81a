/-
The law FnExactReadHex holds of the printed plain functions, for all arguments that the printed bounds allow.
-/
import Derived.Test.YtamdgigcngeanaaDoorQFnExactReadHexx1
import Derived.Test.YtamdgigcngeanaaDoorTools
import Derived.Test.YtamdgigcngeanaaDoorSpots
import Derived.Test.YtamdgigcngeanaaDoorDecs
namespace Go.Proofs.YtamdgigcngeanaaDoor.Pure
open Go.RowKit Go.Proofs.YtamdgigcngeanaaDoor.QFnExactReadHex Go.Proofs.YtamdgigcngeanaaDoorW.PrintWords Go.Proofs.YtamdgigcngeanaaDoorW.PrintLast Go.Proofs.YtamdgigcngeanaaDoorW.PrintMore Go.Proofs.YtamdgigcngeanaaDoor.Tools Go.Proofs.YtamdgigcngeanaaDoor.Plain
set_option linter.unusedVariables false

/-! ### hexL -/
/-- The digits, none for nought. -/
def hexN (u : Nat) : List UInt8 := if u = 0 then [] else Hex.hexL u
theorem hexN_step (u : Nat) (h : u ≠ 0) : hexN u = hexN (u / 16) ++ [Hex.hexDig (u % 16)] := by
  unfold hexN
  rw [if_neg h]
  by_cases h1 : u < 16
  · rw [Hex.hexL_small h1, if_pos (by omega), Nat.mod_eq_of_lt h1]; rfl
  · rw [Hex.hexL_step h1, if_neg (by omega)]
theorem hex_cut (d : Nat) (h : d < 16) : (⟨#[48, 49, 50, 51, 52, 53, 54, 55, 56, 57, 97, 98, 99, 100, 101, 102]⟩ : ByteArray).extract d (d + 1) = toB [Hex.hexDig d] := by
  rw [extract_eq]
  apply congrArg toB
  match d, h with
  | 0, _ => rfl
  | 1, _ => rfl
  | 2, _ => rfl
  | 3, _ => rfl
  | 4, _ => rfl
  | 5, _ => rfl
  | 6, _ => rfl
  | 7, _ => rfl
  | 8, _ => rfl
  | 9, _ => rfl
  | 10, _ => rfl
  | 11, _ => rfl
  | 12, _ => rfl
  | 13, _ => rfl
  | 14, _ => rfl
  | 15, _ => rfl
  | n + 16, h => omega
theorem tmod16 (u : Nat) : Int.tmod (u : Int) 16 = ((u % 16 : Nat) : Int) := rfl
theorem tdiv16 (u : Nat) : Int.tdiv (u : Int) 16 = ((u / 16 : Nat) : Int) := rfl

/-! ### spec_HexText -/
theorem spec_HexText_l0 (n : Nat) : ∀ (u : Nat) (acc : List UInt8), u < 16 ^ n → acc.length + n ≤ 100 → u ≤ 4294967295 →
    Ev (fun k => spec_HexText.l0 k (toB acc) (u : Int)) (toB (hexN u ++ acc)) := by
  have stop : ∀ acc : List UInt8, Ev (fun k => spec_HexText.l0 k (toB acc) ((0 : Nat) : Int)) (toB (hexN 0 ++ acc)) := by
    intro acc
    refine Ev.step (fun k => by rw [spec_HexText.l0]) ?_
    exact ev_neg (by omega) (ev_ret rfl)
  induction n with
  | zero =>
    intro u acc hu ha h1
    obtain rfl : u = 0 := by rw [Nat.pow_zero] at hu; omega
    exact stop acc
  | succ n ih =>
    intro u acc hu ha h1
    by_cases hz : u = 0
    · subst hz; exact stop acc
    rw [Nat.pow_succ] at hu
    have hd : u % 16 < 16 := Nat.mod_lt _ (by decide)
    have e := ih (u / 16) (Hex.hexDig (u % 16) :: acc) (by omega) (by rw [List.length_cons]; omega) (by omega)
    refine Ev.step (fun k => by rw [spec_HexText.l0]) ?_
    rw [tmod16, tdiv16, w64 (x := ((u % 16 : Nat) : Int) + 1) (by omega) (by omega), show ((u % 16 : Nat) : Int) + 1 = ((u % 16 + 1 : Nat) : Int) by omega, Int.toNat_natCast, Int.toNat_natCast, hex_cut (u % 16) hd, toB_append', toB_size, toB_size, w64 (x := ((u / 16 : Nat) : Int)) (by omega) (by omega)]
    refine ev_pos (by omega) (ev_pos (by omega) (ev_pos (by omega) (ev_pos (by omega) (ev_pos (by rw [List.length_singleton]; omega) ?_))))
    rw [hexN_step u hz, List.append_assoc]
    exact e
theorem spec_HexText_ev (u : Nat) (h1 : u ≤ 4294967295) : Ev (fun k => spec_HexText.f k (u : Int)) (toB (Hex.hexL u)) := by
  refine ev_ite (fun h => ev_ret ?_) (fun h => ?_)
  · obtain rfl : u = 0 := by omega
    rw [Hex.hexL_small (by decide)]; rfl
  · rw [w64 (by omega) (by omega)]
    refine ev_to (spec_HexText_l0 8 u [] (by omega) (by decide) h1) ?_
    rw [List.append_nil, hexN, if_neg (by omega)]

/-! ### spec_l01In -/
theorem spec_l01In_eq (a b c : Int) : spec_l01In.f a b c = some (decide (b ≤ a ∧ a ≤ c)) := by
  unfold spec_l01In.f
  by_cases h : b ≤ a
  · rw [if_pos h]; simp [h]
  · rw [if_neg h]; simp [h]

/-! ### spec_l01Digit -/
theorem spec_l01Digit_eq (b : UInt8) : spec_l01Digit.f (b.toNat : Int) = some (decide (48 ≤ b.toNat ∧ b.toNat ≤ 57)) := by
  have hb := b.toNat_lt
  unfold spec_l01Digit.f
  rw [w64 (by omega) (by omega), spec_l01In_eq]
  simp only [Option.bind_some]
  congr 1
  rw [decide_eq_decide]
  omega

/-! ### readHex -/
def hexS (b : UInt8) : Option Nat := if 48 ≤ b.toNat ∧ b.toNat ≤ 57 then some (b.toNat - 48) else if 97 ≤ b.toNat ∧ b.toNat ≤ 102 then some (b.toNat - 87) else none
def sfold (acc : Nat) : List UInt8 → Option Nat
  | [] => some acc
  | b :: r => match hexS b with
    | none => none
    | some d => sfold (acc * 16 + d) r
theorem sfold_snoc (b : UInt8) (l : List UInt8) : ∀ acc, sfold acc (l ++ [b]) = (sfold acc l).bind fun x => (hexS b).map fun d => x * 16 + d := by
  induction l with
  | nil => intro acc; simp only [List.nil_append, sfold]; cases hexS b <;> rfl
  | cons c l ih =>
    intro acc
    simp only [List.cons_append, sfold]
    cases hexS c with
    | none => rfl
    | some d => exact ih _
theorem hexS_dig (d : Nat) (h : d < 16) : hexS (Hex.hexDig d) = some d := by
  match d, h with
  | 0, _ => rfl
  | 1, _ => rfl
  | 2, _ => rfl
  | 3, _ => rfl
  | 4, _ => rfl
  | 5, _ => rfl
  | 6, _ => rfl
  | 7, _ => rfl
  | 8, _ => rfl
  | 9, _ => rfl
  | 10, _ => rfl
  | 11, _ => rfl
  | 12, _ => rfl
  | 13, _ => rfl
  | 14, _ => rfl
  | 15, _ => rfl
  | n + 16, h => omega
theorem sfold_hexL (u : Nat) : sfold 0 (Hex.hexL u) = some u := by
  induction u using Nat.strongRecOn with
  | _ u ih =>
    by_cases h : u < 16
    · rw [Hex.hexL_small h]
      simp only [sfold, hexS_dig u h]
      congr 1; omega
    · rw [Hex.hexL_step h, sfold_snoc, ih (u / 16) (by omega), hexS_dig _ (Nat.mod_lt _ (by decide))]
      simp only [Option.bind_some, Option.map_some]
      congr 1; omega
theorem hexL_len (k : Nat) : ∀ u, u < 16 ^ (k + 1) → (Hex.hexL u).length ≤ k + 1 ∧ 1 ≤ (Hex.hexL u).length := by
  induction k with
  | zero => intro u hu; rw [Hex.hexL_small (by simpa using hu)]; simp
  | succ k ih =>
    intro u hu
    by_cases h : u < 16
    · rw [Hex.hexL_small h]; simp
    · rw [Hex.hexL_step h, List.length_append, List.length_singleton]
      rw [Nat.pow_succ] at hu
      have := ih (u / 16) (by omega)
      omega
def isHex (l : List UInt8) : Prop := ∃ u, u < 4294967296 ∧ Hex.hexL u = l
open Classical in
noncomputable def hexR (l : List UInt8) : Int × Bool := if h : isHex l then ((Classical.choose h : Nat), true) else (0, false)
theorem hexL_inj {a b : Nat} (h : Hex.hexL a = Hex.hexL b) : a = b := by
  have e := sfold_hexL a
  rw [h, sfold_hexL b] at e
  exact (Option.some.inj e).symm
theorem hexR_of {u : Nat} (h : u < 4294967296) : hexR (Hex.hexL u) = ((u : Int), true) := by
  have hx : isHex (Hex.hexL u) := ⟨u, h, rfl⟩
  unfold hexR
  rw [dif_pos hx, hexL_inj (Classical.choose_spec hx).2]
theorem hexR_no {l : List UInt8} (h : ¬ isHex l) : hexR l = (0, false) := dif_neg h
/-- What the reading comes to behind so many digits. -/
def redH (l : List UInt8) (acc : Nat) (r : List UInt8) : Int × Bool := match sfold acc r with
  | none => (0, false)
  | some n => if Hex.hexL (n % 4294967296) = l then (((n % 4294967296 : Nat) : Int), true) else (0, false)
theorem redH_all (l : List UInt8) : redH l 0 l = hexR l := by
  unfold redH
  by_cases hx : isHex l
  · obtain ⟨u, hu, rfl⟩ := hx
    rw [sfold_hexL, hexR_of hu]
    simp only [Nat.mod_eq_of_lt hu, if_true]
  · rw [hexR_no hx]
    split
    · rfl
    · rename_i n _
      exact if_neg (fun e => hx ⟨n % 4294967296, Nat.mod_lt _ (by decide), e⟩)
theorem redH_dig (l : List UInt8) (acc d : Nat) (b : UInt8) (r : List UInt8) (h : hexS b = some d) : redH l acc (b :: r) = redH l (acc * 16 + d) r := by
  unfold redH
  simp only [sfold, h]
theorem redH_bad (l : List UInt8) (acc : Nat) (b : UInt8) (r : List UInt8) (h : hexS b = none) : redH l acc (b :: r) = (0, false) := by
  unfold redH
  simp only [sfold, h]

/-! ### spec_ReadHex -/
theorem pow16_le (i : Nat) (hi : i ≤ 8) : 16 ^ i ≤ 4294967296 := Nat.le_trans (Nat.pow_le_pow_right (by decide) hi) (by decide)
theorem spec_ReadHex_loop (l : List UInt8) (hl : l.length ≤ 8) (d : Nat) :
    ∀ (i acc : Nat), i + d = l.length → acc < 16 ^ i → Ev (fun k => spec_ReadHex.l0 k (toB l) (acc : Int) (i : Int)) (redH l acc (l.drop i)) := by
  have hsz : (toB l).size = l.length := toB_size l
  induction d with
  | zero =>
    intro i acc hi ha
    refine Ev.step (fun k => by rw [spec_ReadHex.l0]) ?_
    rw [List.drop_of_length_le (by omega)]
    refine ev_neg (by omega) ?_
    rw [show (acc : Int) % 4294967296 = ((acc % 4294967296 : Nat) : Int) by omega]
    have hm : acc % 4294967296 < 4294967296 := Nat.mod_lt _ (by decide)
    refine ev_bind (spec_HexText_ev _ (by omega)) ?_
    by_cases he : Hex.hexL (acc % 4294967296) = l
    · rw [show redH l acc [] = (((acc % 4294967296 : Nat) : Int), true) from if_pos he]
      exact ev_pos (by rw [he]) (ev_ret rfl)
    · rw [show redH l acc [] = (0, false) from if_neg he]
      exact ev_neg (fun h => he (by rw [ba_toList, ba_toList, toB_data, toB_data] at h; exact h)) (ev_ret rfl)
  | succ d ih =>
    intro i acc hi ha
    have hp := pow16_le (i + 1) (by omega)
    have hp0 := pow16_le i (by omega)
    have hlt : i < (toB l).size := by omega
    have hdrop : l.drop i = (toB l)[i] :: l.drop (i + 1) := drop_cons hlt
    have hb := (toB l)[i].toNat_lt
    refine Ev.step (fun k => by rw [spec_ReadHex.l0]) ?_
    rw [Tools.bt_at hlt, hdrop]
    refine ev_pos (by omega) (ev_pos (by omega) (ev_bind (ev_eq (spec_l01Digit_eq _)) ?_))
    have next : ∀ x : Nat, hexS (toB l)[i] = some x → x < 16 → Ev (fun k => spec_ReadHex.l0 k (toB l) ((acc * 16 + x : Nat) : Int) ((i + 1 : Nat) : Int)) (redH l acc ((toB l)[i] :: l.drop (i + 1))) := by
      intro x hx h16
      rw [redH_dig l acc x _ _ hx]
      exact ih (i + 1) _ (by omega) (by rw [Nat.pow_succ]; omega)
    have bad : hexS (toB l)[i] = none → redH l acc ((toB l)[i] :: l.drop (i + 1)) = (0, false) := redH_bad l acc _ _
    generalize hbe : (toB l)[i] = b at hb next bad ⊢
    by_cases hd : 48 ≤ b.toNat ∧ b.toNat ≤ 57
    · have e := next (b.toNat - 48) (if_pos hd) (by omega)
      refine ev_pos (decide_eq_true hd) ?_
      rw [w64 (x := 16 * (acc : Int)) (by omega) (by omega), w64 (x := (b.toNat : Int)) (by omega) (by omega), w64 (x := 16 * (acc : Int) + (b.toNat : Int)) (by omega) (by omega), w64 (x := 16 * (acc : Int) + (b.toNat : Int) - 48) (by omega) (by omega), w64 (x := (i : Int) + 1) (by omega) (by omega)]
      rw [show 16 * (acc : Int) + (b.toNat : Int) - 48 = ((acc * 16 + (b.toNat - 48) : Nat) : Int) by omega, show (i : Int) + 1 = ((i + 1 : Nat) : Int) by omega]
      exact e
    · refine ev_neg (by rw [decide_eq_true_eq]; exact hd) ?_
      rw [w64 (x := (b.toNat : Int)) (by omega) (by omega)]
      refine ev_bind (ev_eq (spec_l01In_eq _ _ _)) ?_
      by_cases hc : 97 ≤ b.toNat ∧ b.toNat ≤ 102
      · have e := next (b.toNat - 87) (by unfold hexS; rw [if_neg hd, if_pos hc]) (by omega)
        refine ev_pos (decide_eq_true (by omega)) ?_
        rw [w64 (x := 16 * (acc : Int)) (by omega) (by omega), w64 (x := 16 * (acc : Int) + (b.toNat : Int)) (by omega) (by omega), w64 (x := 16 * (acc : Int) + (b.toNat : Int) - 87) (by omega) (by omega), w64 (x := (i : Int) + 1) (by omega) (by omega)]
        rw [show 16 * (acc : Int) + (b.toNat : Int) - 87 = ((acc * 16 + (b.toNat - 87) : Nat) : Int) by omega, show (i : Int) + 1 = ((i + 1 : Nat) : Int) by omega]
        exact e
      · rw [bad (by unfold hexS; rw [if_neg hd, if_neg hc])]
        exact ev_neg (by rw [decide_eq_true_eq]; omega) (ev_ret rfl)
theorem spec_ReadHex_ev (l : List UInt8) : Ev (fun k => spec_ReadHex.f k (toB l)) (hexR l) := by
  refine ev_bind (ev_eq (spec_l01In_eq _ _ _)) ?_
  rw [toB_size]
  by_cases hlen : 1 ≤ l.length ∧ l.length ≤ 8
  · refine ev_pos (decide_eq_true (by omega)) ?_
    rw [← redH_all l]
    exact spec_ReadHex_loop l hlen.2 l.length 0 0 (Nat.zero_add _) (by decide)
  · refine ev_neg (by rw [decide_eq_true_eq]; omega) (ev_ret ?_)
    refine (hexR_no ?_).symm
    rintro ⟨u, hu, e⟩
    have := hexL_len 7 u hu
    rw [e] at this
    omega

/-! ### impl_ReadHex -/
theorem hexV_dig (d : Nat) (h : d < 16) : ParseHex.hexV (Hex.hexDig d) = some d := by
  match d, h with
  | 0, _ => rfl
  | 1, _ => rfl
  | 2, _ => rfl
  | 3, _ => rfl
  | 4, _ => rfl
  | 5, _ => rfl
  | 6, _ => rfl
  | 7, _ => rfl
  | 8, _ => rfl
  | 9, _ => rfl
  | 10, _ => rfl
  | 11, _ => rfl
  | 12, _ => rfl
  | 13, _ => rfl
  | 14, _ => rfl
  | 15, _ => rfl
  | n + 16, h => omega
theorem phex_snoc (b : UInt8) (l : List UInt8) : ∀ acc, ParseHex.phex acc (l ++ [b]) = (ParseHex.phex acc l).bind fun x => ParseHex.phex x [b] := by
  induction l with
  | nil => intro acc; rfl
  | cons c l ih =>
    intro acc
    simp only [List.cons_append, ParseHex.phex]
    cases ParseHex.hexV c with
    | none => rfl
    | some d =>
      simp only []
      split
      · rfl
      · exact ih _
theorem phex_hexL (u : Nat) (hu : u < 4294967296) : ParseHex.phex 0 (Hex.hexL u) = some u := by
  induction u using Nat.strongRecOn with
  | _ u ih =>
    by_cases h : u < 16
    · rw [Hex.hexL_small h]
      simp only [ParseHex.phex, hexV_dig u h]
      rw [if_neg (by omega)]
      congr 1; omega
    · rw [Hex.hexL_step h, phex_snoc, ih (u / 16) (by omega) (by omega)]
      simp only [Option.bind_some, ParseHex.phex, hexV_dig _ (Nat.mod_lt u (by decide : 0 < 16))]
      rw [if_neg (by omega)]
      congr 1; omega
theorem impl_ReadHex_eq (l : List UInt8) (hl : l.length ≤ 281474976710656) : impl_ReadHex.f (toB l) = some (hexR l) := by
  unfold impl_ReadHex.f
  rw [toB_size, if_pos hl, toB_data]
  congr 1
  unfold ParseHex.v
  by_cases hx : isHex l
  · obtain ⟨u, hu, rfl⟩ := hx
    have hne : Hex.hexL u ≠ [] := by intro e; have := (hexL_len 7 u hu).2; rw [e] at this; simp at this
    rw [show ParseHex.rdH (Hex.hexL u) = some u by unfold ParseHex.rdH; rw [if_neg hne, phex_hexL u hu], hexR_of hu]
    exact if_pos rfl
  · rw [hexR_no hx]
    split
    · rename_i u h
      exact if_neg (fun e => hx ⟨u, ParseHex.rdH_le h, e⟩)
    · rfl

/-! ### FnExactReadHex -/
theorem FnExactReadHex : laws_FnExactReadHex.Pure := by
  intro s hs
  refine Ev.rounds (r := true) ?_
  refine ev_ite (fun _ => ev_ret rfl) (fun h => ?_)
  obtain ⟨l, rfl⟩ : ∃ l, s = toB l := ⟨s.data.toList, (toB_self s).symm⟩
  rw [toB_size] at h
  exact ev_bind (spec_ReadHex_ev l) (ev_bind (ev_eq (impl_ReadHex_eq l (by omega))) (ev_pos rfl (ev_neg (by simp) (ev_ret rfl))))

end Go.Proofs.YtamdgigcngeanaaDoor.Pure
