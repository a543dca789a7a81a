/-
The law FnExactReadDec holds of the printed plain functions, for all arguments that the printed bounds allow.
-/
import Derived.Test.YtamdgigcngeanaaDoorQFnExactReadDecx1
import Derived.Test.YtamdgigcngeanaaDoorTools
import Derived.Test.YtamdgigcngeanaaDoorSpots
import Derived.Test.YtamdgigcngeanaaDoorDecs
import Derived.Test.YtamdgigcngeanaaDoorReadDecs
namespace Go.Proofs.YtamdgigcngeanaaDoor.Pure
open Go.RowKit Go.Proofs.YtamdgigcngeanaaDoor.QFnExactReadDec Go.Proofs.YtamdgigcngeanaaDoorW.PrintWords Go.Proofs.YtamdgigcngeanaaDoorW.PrintLast Go.Proofs.YtamdgigcngeanaaDoorW.PrintMore Go.Proofs.YtamdgigcngeanaaDoor.Tools Go.Proofs.YtamdgigcngeanaaDoor.Plain
set_option linter.unusedVariables false

/-! ### spec_DecText -/
theorem spec_DecText_l0 (x0 : Int) (n : Nat) : ∀ (m : Int) (acc : List UInt8), m.natAbs < 10 ^ n → acc.length + n ≤ 100 → -9223372036854775808 ≤ m → m ≤ 9223372036854775807 →
    Ev (fun k => spec_DecText.l0 k x0 (toB acc) m) (toB ((if x0 < 0 then [45] else []) ++ decL m.natAbs ++ acc)) := by
  have stop : ∀ acc : List UInt8, acc.length ≤ 100 → Ev (fun k => spec_DecText.l0 k x0 (toB acc) 0) (toB ((if x0 < 0 then [45] else []) ++ decL 0 ++ acc)) := by
    intro acc ha
    refine Ev.step (fun k => by rw [spec_DecText.l0]) ?_
    refine ev_pos rfl (ev_ite (fun h => ev_pos (by rw [toB_size]; omega) (ev_ret ?_)) (fun h => ev_ret ?_))
    · rw [if_pos h, show (⟨#[45]⟩ : ByteArray) = toB [45] from rfl, toB_append']; rfl
    · rw [if_neg h]; rfl
  induction n with
  | zero =>
    intro m acc hm ha h0 h1
    obtain rfl : m = 0 := by rw [Nat.pow_zero] at hm; omega
    exact stop acc (by omega)
  | succ n ih =>
    intro m acc hm ha h0 h1
    by_cases hz : m = 0
    · subst hz; exact stop acc (by omega)
    rw [Nat.pow_succ] at hm
    obtain ⟨u, hu⟩ : ∃ u, u = m.natAbs := ⟨_, rfl⟩
    have hd : u % 10 < 10 := Nat.mod_lt _ (by decide)
    have hcut := dec_cut (u % 10) hd
    have hgo : ∀ m' : Int, m'.natAbs = u / 10 → -9223372036854775808 ≤ m' → m' ≤ 9223372036854775807 → Ev (fun k => spec_DecText.l0 k x0 (toB (UInt8.ofNat (48 + u % 10) :: acc)) m') (toB ((if x0 < 0 then [45] else []) ++ decL m.natAbs ++ acc)) := by
      intro m' hm' g0 g1
      have e := ih m' (UInt8.ofNat (48 + u % 10) :: acc) (by rw [hm']; omega) (by rw [List.length_cons]; omega) g0 g1
      rw [hm'] at e
      rw [← hu, decL_step u (by omega)]
      refine ev_to e ?_
      simp only [List.append_assoc, List.singleton_append]
    refine Ev.step (fun k => by rw [spec_DecText.l0]) ?_
    refine ev_neg hz ?_
    rcases Int.natAbs_eq m with e | e
    · rw [← hu] at e
      rw [e, tmod_pos, tdiv_pos, w64 (x := ((u % 10 : Nat) : Int) + 1) (by omega) (by omega), show ((u % 10 : Nat) : Int) + 1 = ((u % 10 + 1 : Nat) : Int) by omega, Int.toNat_natCast, Int.toNat_natCast, hcut, toB_append', toB_size, toB_size, w64 (x := ((u / 10 : Nat) : Int)) (by omega) (by omega)]
      refine ev_neg (by omega) (ev_pos (by omega) (ev_pos (by omega) (ev_pos (by omega) (ev_pos (by rw [List.length_singleton]; omega) ?_))))
      rw [e] at hgo
      exact hgo _ (by omega) (by omega) (by omega)
    · rw [← hu] at e
      by_cases hm0 : u % 10 = 0
      · rw [e, tmod_neg, tdiv_neg, w64 (x := -((u % 10 : Nat) : Int) + 1) (by omega) (by omega), show -((u % 10 : Nat) : Int) + 1 = ((u % 10 + 1 : Nat) : Int) by omega, show -((u % 10 : Nat) : Int) = ((u % 10 : Nat) : Int) by omega, Int.toNat_natCast, Int.toNat_natCast, hcut, toB_append', toB_size, toB_size, w64 (x := -((u / 10 : Nat) : Int)) (by omega) (by omega)]
        refine ev_neg (by omega) (ev_pos (by omega) (ev_pos (by omega) (ev_pos (by omega) (ev_pos (by rw [List.length_singleton]; omega) ?_))))
        rw [e] at hgo
        exact hgo _ (by omega) (by omega) (by omega)
      · rw [e, tmod_neg, tdiv_neg, w64 (x := - -((u % 10 : Nat) : Int)) (by omega) (by omega), Int.neg_neg, w64 (x := ((u % 10 : Nat) : Int) + 1) (by omega) (by omega), show ((u % 10 : Nat) : Int) + 1 = ((u % 10 + 1 : Nat) : Int) by omega, Int.toNat_natCast, Int.toNat_natCast, hcut, toB_append', toB_size, toB_size, w64 (x := -((u / 10 : Nat) : Int)) (by omega) (by omega)]
        refine ev_pos (by omega) (ev_pos (by omega) (ev_pos (by omega) (ev_pos (by omega) (ev_pos (by rw [List.length_singleton]; omega) ?_))))
        rw [e] at hgo
        exact hgo _ (by omega) (by omega) (by omega)
theorem spec_DecText_ev (n : Int) (h0 : -9223372036854775808 ≤ n) (h1 : n ≤ 9223372036854775807) : Ev (fun k => spec_DecText.f k n) (toB (Lib.itoa n)) := by
  refine ev_ite (fun h => ev_ret ?_) (fun h => ?_)
  · subst h
    rw [show Lib.itoa 0 = Lib.decDigits 0 from Lib.itoa_nonneg 0, Lib.decDigits_one (by decide)]; rfl
  · refine ev_to (spec_DecText_l0 n 20 n [] (by omega) (by decide) h0 h1) ?_
    rw [itoa_decL n h, List.append_nil]

/-! ### spec_l01In -/
theorem spec_l01In_eq (a b c : Int) : spec_l01In.f a b c = some (decide (b ≤ a ∧ a ≤ c)) := by
  unfold spec_l01In.f
  by_cases h : b ≤ a
  · rw [if_pos h]; simp [h]
  · rw [if_neg h]; simp [h]

/-! ### spec_l01Digit -/
theorem spec_l01Digit_eq (b : UInt8) : spec_l01Digit.f (b.toNat : Int) = some (decide (48 ≤ b.toNat ∧ b.toNat ≤ 57)) := by
  have hb := b.toNat_lt
  unfold spec_l01Digit.f
  rw [w64 (by omega) (by omega), spec_l01In_eq]
  simp only [Option.bind_some]
  congr 1
  rw [decide_eq_decide]
  omega

/-! ### spec_ReadDec -/
theorem spec_ReadDec_j2 (l : List UInt8) (n : Int) (h0 : -1000000000000 ≤ n) (h1 : n ≤ 1000000000000) : Ev (fun k => spec_ReadDec.j2 k (toB l) n) (finD l n) := by
  refine Ev.step (fun k => by rw [spec_ReadDec.j2]) ?_
  refine ev_bind (ev_eq (spec_l01In_eq _ _ _)) ?_
  by_cases hb : -9999999999 ≤ n ∧ n ≤ 9999999999
  · refine ev_pos (decide_eq_true hb) (ev_bind (spec_DecText_ev n (by omega) (by omega)) ?_)
    by_cases he : Lib.itoa n = l
    · rw [show finD l n = (n, true) from if_pos ⟨hb, he⟩]
      exact ev_pos (by rw [he]) (ev_ret rfl)
    · rw [show finD l n = (0, false) from if_neg (fun h => he h.2)]
      exact ev_neg (fun h => he (by rw [ba_toList, ba_toList, toB_data, toB_data] at h; exact h)) (ev_ret rfl)
  · rw [show finD l n = (0, false) from if_neg (fun h => hb h.1)]
    exact ev_neg (by rw [decide_eq_true_eq]; exact hb) (ev_ret rfl)
/-- What the reading comes to behind so many digits. -/
def redD (l : List UInt8) (acc : Nat) (r : List UInt8) : Int × Bool := match Lib.decFrom acc r with
  | none => (0, false)
  | some u => finD l (if l.head? = some 45 then -(u : Int) else u)
theorem redD_nil (l : List UInt8) (acc : Nat) : redD l acc [] = finD l (if l.head? = some 45 then -(acc : Int) else acc) := rfl
theorem redD_dig (l : List UInt8) (acc : Nat) (b : UInt8) (r : List UInt8) (h : 48 ≤ b.toNat ∧ b.toNat ≤ 57) : redD l acc (b :: r) = redD l (acc * 10 + (b.toNat - 48)) r := by
  unfold redD
  simp only [Lib.decFrom, Lib.digitVal, if_pos h]
theorem redD_no (l : List UInt8) (acc : Nat) (b : UInt8) (r : List UInt8) (h : ¬ (48 ≤ b.toNat ∧ b.toNat ≤ 57)) : redD l acc (b :: r) = (0, false) := by
  unfold redD
  simp only [Lib.decFrom, Lib.digitVal, if_neg h]
theorem pow_le11 (i : Nat) (hi : i ≤ 11) : 10 ^ i ≤ 100000000000 := Nat.le_trans (Nat.pow_le_pow_right (by decide) hi) (by decide)
theorem head45 (l : List UInt8) (h : 1 ≤ l.length) : (bt (toB l) 0 = 45) ↔ l.head? = some 45 := by
  obtain ⟨b, r, rfl⟩ := List.exists_cons_of_ne_nil (List.ne_nil_of_length_pos h)
  have hsz : (toB (b :: r)).size = r.length + 1 := by rw [toB_size, List.length_cons]
  have e : bt (toB (b :: r)) ((0 : Nat) : Int) = (b.toNat : Int) := Tools.bt_at (s := toB (b :: r)) (by omega)
  rw [show (0 : Int) = ((0 : Nat) : Int) from rfl, e, List.head?_cons, Option.some.injEq, ← UInt8.toNat_inj]
  show _ ↔ b.toNat = 45
  omega
theorem spec_ReadDec_stop (l : List UInt8) (hl : l.length ≤ 11) (hl1 : 1 ≤ l.length) (A : Nat) (hA : A < 10 ^ l.length) :
    Ev (fun k => spec_ReadDec.l0 k (toB l) (A : Int) (l.length : Int)) (redD l A []) := by
  have := pow_le11 _ hl
  have hsz : (toB l).size = l.length := toB_size l
  refine Ev.step (fun k => by rw [spec_ReadDec.l0]) ?_
  refine ev_neg (by omega) (ev_pos (by omega) ?_)
  rw [redD_nil]
  by_cases h : l.head? = some 45
  · rw [if_pos h]
    refine ev_pos ((head45 l hl1).2 h) ?_
    rw [w64 (by omega) (by omega)]
    exact spec_ReadDec_j2 l _ (by omega) (by omega)
  · rw [if_neg h]
    exact ev_neg (fun e => h ((head45 l hl1).1 e)) (spec_ReadDec_j2 l _ (by omega) (by omega))
theorem spec_ReadDec_one (l : List UInt8) (hl : l.length ≤ 11) (i acc : Nat) (hi : i < l.length) (ha : acc < 10 ^ i)
    (hn : ∀ A : Nat, A < 10 ^ (i + 1) → Ev (fun k => spec_ReadDec.l0 k (toB l) (A : Int) ((i + 1 : Nat) : Int)) (redD l A (l.drop (i + 1)))) :
    Ev (fun k => spec_ReadDec.j1 k (toB l) (acc : Int) (i : Int) false) (redD l acc (l.drop i)) := by
  have hp := pow_le11 (i + 1) (by omega)
  have hp0 := pow_le11 i (by omega)
  have hsz : (toB l).size = l.length := toB_size l
  have hlt : i < (toB l).size := by omega
  have hdrop : l.drop i = (toB l)[i] :: l.drop (i + 1) := drop_cons hlt
  have hb := (toB l)[i].toNat_lt
  refine Ev.step (fun k => by rw [spec_ReadDec.j1]) ?_
  refine ev_neg (by simp) (ev_pos (by omega) (ev_pos (by omega) ?_))
  rw [bt_at hlt, hdrop]
  refine ev_bind (ev_eq (spec_l01Digit_eq _)) ?_
  by_cases hd : 48 ≤ (toB l)[i].toNat ∧ (toB l)[i].toNat ≤ 57
  · refine ev_pos (decide_eq_true hd) ?_
    rw [redD_dig l acc _ _ hd]
    generalize (toB l)[i].toNat = b at hd hb ⊢
    rw [w64 (x := 10 * (acc : Int)) (by omega) (by omega), w64 (x := (b : Int)) (by omega) (by omega), w64 (x := 10 * (acc : Int) + (b : Int)) (by omega) (by omega), w64 (x := 10 * (acc : Int) + (b : Int) - 48) (by omega) (by omega), w64 (x := (i : Int) + 1) (by omega) (by omega)]
    rw [show 10 * (acc : Int) + (b : Int) - 48 = ((acc * 10 + (b - 48) : Nat) : Int) by omega, show (i : Int) + 1 = ((i + 1 : Nat) : Int) by omega]
    exact hn _ (by rw [Nat.pow_succ]; omega)
  · rw [redD_no l acc _ _ hd]
    exact ev_neg (by rw [decide_eq_true_eq]; exact hd) (ev_ret rfl)
theorem spec_ReadDec_loop (l : List UInt8) (hl : l.length ≤ 11) (hl1 : 1 ≤ l.length) (d : Nat) :
    ∀ (i acc : Nat), 1 ≤ i → i + d = l.length → acc < 10 ^ i → Ev (fun k => spec_ReadDec.l0 k (toB l) (acc : Int) (i : Int)) (redD l acc (l.drop i)) := by
  induction d with
  | zero =>
    intro i acc h1 hi ha
    obtain rfl : i = l.length := by omega
    rw [List.drop_length]
    exact spec_ReadDec_stop l hl hl1 acc ha
  | succ d ih =>
    intro i acc h1 hi ha
    have hsz : (toB l).size = l.length := toB_size l
    refine Ev.step (fun k => by rw [spec_ReadDec.l0]) ?_
    exact ev_pos (by omega) (ev_neg (by omega) (spec_ReadDec_one l hl i acc (by omega) ha (fun A hA => ih (i + 1) A (by omega) (by omega) hA)))
theorem spec_ReadDec_ev (l : List UInt8) : Ev (fun k => spec_ReadDec.f k (toB l)) (decR l) := by
  refine ev_bind (ev_eq (spec_l01In_eq _ _ _)) ?_
  rw [toB_size]
  by_cases hlen : 1 ≤ l.length ∧ l.length ≤ 11
  · refine ev_pos (decide_eq_true (by omega)) ?_
    obtain ⟨b, r, rfl⟩ := List.exists_cons_of_ne_nil (List.ne_nil_of_length_pos hlen.1)
    have hsz : (toB (b :: r)).size = r.length + 1 := by rw [toB_size, List.length_cons]
    have e0 : bt (toB (b :: r)) 0 = (b.toNat : Int) := Tools.bt_at (s := toB (b :: r)) (i := 0) (by omega)
    rw [List.length_cons] at hlen
    refine Ev.step (fun k => by rw [spec_ReadDec.l0]) ?_
    refine ev_pos (by omega) (ev_pos rfl (ev_pos (by omega) ?_))
    rw [e0]
    by_cases h45 : b = 45
    · subst h45
      rw [show (((45 : UInt8).toNat : Int) == 45) = true from rfl]
      refine Ev.step (fun k => by rw [spec_ReadDec.j1]) ?_
      refine ev_pos rfl ?_
      rw [show wrap64 ((0 : Int) + 1) = ((1 : Nat) : Int) by rw [w64 (by omega) (by omega)]; rfl]
      have e := spec_ReadDec_loop (45 :: r) (by rw [List.length_cons]; omega) (by rw [List.length_cons]; omega) r.length 1 0 (Nat.le_refl _) (by rw [List.length_cons]; omega) (by decide)
      refine ev_to e ?_
      unfold redD
      rw [List.drop_succ_cons, List.drop_zero]
      cases hf : Lib.decFrom 0 r with
      | none =>
        refine (decR_no ?_).symm
        rintro ⟨n, hb, en⟩
        have ea := atoi_itoa n
        rw [en] at ea
        simp only [Lib.atoi, Lib.decNat] at ea
        rw [if_pos (by decide)] at ea
        cases r with
        | nil => simp [Lib.decFrom] at hf
        | cons c r => rw [if_neg (by simp), hf] at ea; simp at ea
      | some u =>
        refine finD_of _ _ (fun m hb em => ?_)
        have ea := atoi_itoa m
        rw [em] at ea
        simp only [Lib.atoi, Lib.decNat] at ea
        rw [if_pos (by decide)] at ea
        cases r with
        | nil => simp at ea
        | cons c r =>
          rw [if_neg (by simp), hf] at ea
          simp only [Option.map_some, Option.some.injEq] at ea
          simp [← ea]
    · have hz : ((b.toNat : Int) == 45) = false := by
        rw [beq_eq_false_iff_ne]
        intro h
        exact h45 (UInt8.toNat_inj.1 (by show b.toNat = 45; omega))
      rw [hz]
      have e := spec_ReadDec_one (b :: r) (by rw [List.length_cons]; omega) 0 0 (by rw [List.length_cons]; omega) (by decide) (fun A hA => spec_ReadDec_loop (b :: r) (by rw [List.length_cons]; omega) (by rw [List.length_cons]; omega) r.length 1 A (Nat.le_refl _) (by rw [List.length_cons]; omega) hA)
      refine ev_to e ?_
      unfold redD
      rw [List.drop_zero]
      have hh : ¬ ((b :: r).head? = some 45) := by rw [List.head?_cons]; intro h; exact h45 (Option.some.inj h)
      simp only [if_neg hh]
      cases hf : Lib.decFrom 0 (b :: r) with
      | none =>
        refine (decR_no ?_).symm
        rintro ⟨n, hb, en⟩
        have ea := atoi_itoa n
        rw [en] at ea
        simp only [Lib.atoi] at ea
        rw [if_neg (by simpa using h45)] at ea
        by_cases h43 : b = 43
        · subst h43
          unfold Lib.itoa at en
          split at en
          · injection en with e1 _; exact absurd e1 (by decide)
          · exact (dec_first _ en).2 rfl
        · rw [if_neg (by simpa using h43)] at ea
          simp only [Lib.decNat] at ea
          rw [if_neg (by simp), hf] at ea
          simp at ea
      | some u =>
        refine finD_of _ _ (fun m hb em => ?_)
        have ea := atoi_itoa m
        rw [em] at ea
        simp only [Lib.atoi] at ea
        rw [if_neg (by simpa using h45)] at ea
        by_cases h43 : b = 43
        · subst h43
          simp [Lib.decFrom, Lib.digitVal] at hf
        · rw [if_neg (by simpa using h43)] at ea
          simp only [Lib.decNat] at ea
          rw [if_neg (by simp), hf] at ea
          simp only [Option.map_some, Option.some.injEq] at ea
          exact ea.symm
  · refine ev_neg (by rw [decide_eq_true_eq]; omega) (ev_ret ?_)
    refine (decR_no ?_).symm
    rintro ⟨n, hb, en⟩
    have := itoa_len hb.1 hb.2
    rw [en] at this
    omega

/-! ### impl_ReadDec -/
theorem impl_ReadDec_eq (l : List UInt8) (hl : l.length ≤ 281474976710656) : impl_ReadDec.f (toB l) = some (decR l) := by
  unfold impl_ReadDec.f
  rw [toB_size, if_pos hl, toB_data]
  congr 1
  unfold impl_ReadDec.v
  by_cases hd : isDec l
  · obtain ⟨n, hb, en⟩ := hd
    rw [← en, atoiAll_itoa hb.1 hb.2, decR_itoa hb.1 hb.2]
    exact if_pos ⟨hb, rfl⟩
  · rw [decR_no hd]
    split
    · rename_i v _
      exact if_neg (fun h => hd ⟨v, h.1, h.2⟩)
    · rfl

/-! ### FnExactReadDec -/
theorem FnExactReadDec : laws_FnExactReadDec.Pure := by
  intro s hs
  refine Ev.rounds (r := true) ?_
  refine ev_ite (fun _ => ev_ret rfl) (fun h => ?_)
  obtain ⟨l, rfl⟩ : ∃ l, s = toB l := ⟨s.data.toList, (toB_self s).symm⟩
  rw [toB_size] at h
  exact ev_bind (spec_ReadDec_ev l) (ev_bind (ev_eq (impl_ReadDec_eq l (by omega))) (ev_pos rfl (ev_neg (by simp) (ev_ret rfl))))

end Go.Proofs.YtamdgigcngeanaaDoor.Pure
