/-
Cells parsed into items, as plain lists: what comes back; no conditions beyond those written in each.
-/
import Derived.Test.YtfjmpdcflnaogaaDoorItems
import Derived.Test.YtfjmpdcflnaogaaDoorRound
import Derived.Test.YtfjmpdcflnaogaaDoorCells
import Derived.Test.YtfjmpdcflnaogaaDoorPuts
namespace Go.Proofs.YtfjmpdcflnaogaaDoor.Plain
open Go.RowKit Go.Proofs.YtfjmpdcflnaogaaDoor.Tools Go.Proofs.YtfjmpdcflnaogaaDoorW.PrintWords

def tup (it : It) : Int × ByteArray × Int × Bool × Int := (it.kind, toB it.name, it.n, it.hex, it.raw)
theorem and_15 {x : Int} (hx : 0 ≤ x ∧ x ≤ 4294967295) : Go.bits .and .u32 x 15 = x % 16 := and_u32 (i := 4) hx (by omega)
theorem and_16 {x : Int} (hx : 0 ≤ x ∧ x ≤ 4294967295) : (Go.bits .and .u32 x 16 != 0) = hexOf x := by
  obtain ⟨a, rfl⟩ := Int.eq_ofNat_of_zero_le hx.1
  have e := (bits_nat .u32 32 (by decide) (fun n h0 h1 => by rw [IntKind.wrap_u32]; omega) a 16 (by omega) (by decide)).1
  have e2 : Go.bits .and .u32 (a : Int) 16 = ((a &&& 16 : Nat) : Int) := e
  have hb : ∀ j : Nat, (a &&& 16).testBit j = (decide (4 = j) && decide (a / 16 % 2 = 1)) := by
    intro j
    rw [Nat.testBit_and, show (16 : Nat) = 2 ^ 4 from rfl, Nat.testBit_two_pow]
    by_cases hj : 4 = j
    · subst hj
      rw [Nat.testBit_eq_decide_div_mod_eq, Bool.and_comm]
    · rw [decide_eq_false hj, Bool.and_false, Bool.false_and]
  rw [e2]
  unfold hexOf
  by_cases h : a / 16 % 2 = 1
  · have e3 : a &&& 16 = 16 := by
      apply Nat.eq_of_testBit_eq
      intro j
      rw [hb, decide_eq_true h, Bool.and_true, show (16 : Nat) = 2 ^ 4 from rfl, Nat.testBit_two_pow]
    rw [e3, decide_eq_true (by omega)]
    rfl
  · have e3 : a &&& 16 = 0 := by
      apply Nat.eq_of_testBit_eq
      intro j
      rw [hb, decide_eq_false h, Bool.and_false, Nat.zero_testBit]
    rw [e3, decide_eq_false (by omega)]
    rfl
theorem kindOf_tagOf (i : Nat) (h1 : 1 ≤ i) (h6 : i ≤ 6) : kindOf (tagOf (i : Int)) = (i : Int) := by
  have : i = 1 ∨ i = 2 ∨ i = 3 ∨ i = 4 ∨ i = 5 ∨ i = 6 := by omega
  rcases this with h | h | h | h | h | h <;> subst h <;> decide
theorem kindOf_none {t : Int} (h : ∀ j : Nat, 1 ≤ j → j < 7 → tagOf (j : Int) ≠ t) : kindOf t = 0 := by
  unfold kindOf
  repeat' split
  · rename_i e; exact absurd e.symm (h 1 (by omega) (by omega))
  · rename_i e; exact absurd e.symm (h 2 (by omega) (by omega))
  · rename_i e; exact absurd e.symm (h 3 (by omega) (by omega))
  · rename_i e; exact absurd e.symm (h 4 (by omega) (by omega))
  · rename_i e; exact absurd e.symm (h 5 (by omega) (by omega))
  · rename_i e; exact absurd e.symm (h 6 (by omega) (by omega))
  · rfl
theorem kindOf_cases (t : Int) : (kindOf t = 0 ∧ t ≠ 1 ∧ t ≠ 3 ∧ t ≠ 4 ∧ t ≠ 9 ∧ t ≠ 10 ∧ t ≠ 11) ∨ (1 ≤ kindOf t ∧ kindOf t ≤ 6 ∧ tagOf (kindOf t) = t ∧ (t = 1 ∨ t = 3 ∨ t = 4 ∨ t = 9 ∨ t = 10 ∨ t = 11)) := by
  unfold kindOf
  split
  · rename_i h; subst h; exact .inr ⟨by decide, by decide, by decide, by omega⟩
  split
  · rename_i h; subst h; exact .inr ⟨by decide, by decide, by decide, by omega⟩
  split
  · rename_i h; subst h; exact .inr ⟨by decide, by decide, by decide, by omega⟩
  split
  · rename_i h; subst h; exact .inr ⟨by decide, by decide, by decide, by omega⟩
  split
  · rename_i h; subst h; exact .inr ⟨by decide, by decide, by decide, by omega⟩
  split
  · rename_i h; subst h; exact .inr ⟨by decide, by decide, by decide, by omega⟩
  · exact .inl ⟨rfl, by omega, by omega, by omega, by omega, by omega, by omega⟩
theorem unpack_true {l : List Int} (h : (unpack l).2 = true) : okName (unpack l).1 = true ∧ pack (unpack l).1 = l := by
  unfold unpack at h ⊢
  split at h
  · cases h
  · rename_i h1
    split at h
    · rename_i h2
      rw [if_neg h1, if_pos h2]
      exact h2
    · cases h
theorem tail_nil : tailOf [] = [] := rfl
theorem tail_yes {d : Int} {l : List Int} (h : d % 16 = 0) (h0 : d ≠ 0) : tailOf (d :: l) = d :: tailOf l := by
  unfold tailOf
  rw [List.takeWhile_cons, if_pos (by simp [h, h0])]
theorem tail_no {d : Int} {l : List Int} (h : ¬ (d % 16 = 0 ∧ d ≠ 0)) : tailOf (d :: l) = [] := by
  unfold tailOf
  rw [List.takeWhile_cons, if_neg (by simpa using h)]
theorem tail_zeros (l : List Int) (k : Nat) : tailOf (l ++ List.replicate k 0) = tailOf l := by
  induction l with
  | nil => cases k with
    | zero => rfl
    | succ k => exact tail_no (by simp)
  | cons d l ih =>
    by_cases h : d % 16 = 0 ∧ d ≠ 0
    · rw [List.cons_append, tail_yes h.1 h.2, tail_yes h.1 h.2, ih]
    · rw [List.cons_append, tail_no h, tail_no h]
theorem tail_split (l : List Int) : ∃ r, l = tailOf l ++ r := ⟨_, (List.takeWhile_append_dropWhile (p := fun c => decide (c % 16 = 0) && decide (c ≠ 0)) (l := l)).symm⟩
theorem tail_mod {l : List Int} {x : Int} (h : x ∈ tailOf l) : x % 16 = 0 := by
  induction l with
  | nil => simp [tailOf] at h
  | cons d l ih =>
    by_cases hd : d % 16 = 0 ∧ d ≠ 0
    · rw [tail_yes hd.1 hd.2, List.mem_cons] at h
      rcases h with h | h
      · rw [h]; exact hd.1
      · exact ih h
    · rw [tail_no hd] at h; simp at h
theorem tail_mem {l : List Int} {x : Int} (h : x ∈ tailOf l) : x ∈ l ∧ x % 16 = 0 := by
  obtain ⟨r, e⟩ := tail_split l
  exact ⟨by rw [e]; exact List.mem_append_left _ h, tail_mod h⟩
theorem raw_cells (c : Int) : cellsOf (rawIt c) = [c] := by
  unfold rawIt cellsOf
  rw [if_pos rfl, if_pos ⟨rfl, rfl, rfl⟩]
theorem long_cells {c d : Int} (hc : 0 ≤ c ∧ c ≤ 4294967295) (hd : 0 ≤ d ∧ d ≤ 4294967295) (s : Int) (t : Int) (ht : c % 16 = t) (h : c < 32 ∧ ¬ (-67108864 ≤ wrap32 d ∧ wrap32 d ≤ 67108863)) : numCells (wrap32 d) (hexOf c) s t = [c, d] := by
  have e1 : bitOf (hexOf c) + t = c := by
    unfold bitOf hexOf
    by_cases hx : c / 16 % 2 = 1
    · rw [decide_eq_true hx, if_pos rfl]; omega
    · rw [decide_eq_false hx, if_neg (by simp)]; omega
  have e2 : wrap32 d % 4294967296 = d := by unfold wrap32; omega
  unfold numCells
  rw [if_neg h.2, e1, e2]
theorem long_cells_not {c d : Int} (s : Int) (t : Int) (ht : c % 16 = t) (h : ¬ (c < 32 ∧ ¬ (-67108864 ≤ wrap32 d ∧ wrap32 d ≤ 67108863))) : numCells (wrap32 d) (hexOf c) s t ≠ [c, d] := by
  unfold numCells
  split
  · simp
  · rename_i hn
    intro e
    injection e with e1 _
    apply h
    refine ⟨?_, hn⟩
    unfold bitOf hexOf at e1
    by_cases hx : c / 16 % 2 = 1
    · rw [decide_eq_true hx, if_pos rfl] at e1; omega
    · rw [decide_eq_false hx, if_neg (by simp)] at e1; omega
theorem short_cells {c : Int} (hc : 0 ≤ c ∧ c ≤ 4294967295) (s t : Int) (hs : c % 16 = s) : numCells (wrap32 c / 32) (hexOf c) s t = [c] := by
  unfold numCells
  rw [if_pos (by unfold wrap32; omega)]
  congr 1
  unfold bitOf hexOf
  by_cases hx : c / 16 % 2 = 1
  · rw [decide_eq_true hx, if_pos rfl]; unfold wrap32; omega
  · rw [decide_eq_false hx, if_neg (by simp)]; unfold wrap32; omega
theorem cells_one (c : Int) (rest : List Int) (hc : 0 ≤ c ∧ c ≤ 4294967295) (hr : ∀ x ∈ rest, 0 ≤ x ∧ x ≤ 4294967295) :
    cellsOf (parseOne c rest).1 = (c :: rest).take (parseOne c rest).2 ∧ 1 ≤ (parseOne c rest).2 ∧ (parseOne c rest).2 ≤ rest.length + 1 := by
  have raw : cellsOf (rawIt c, 1).1 = (c :: rest).take (rawIt c, 1).2 ∧ 1 ≤ (rawIt c, 1).2 ∧ (rawIt c, 1).2 ≤ rest.length + 1 := ⟨raw_cells c, Nat.le_refl _, by simp⟩
  unfold parseOne
  rcases kindOf_cases (c % 16) with hk | hk
  · rw [if_neg (by omega)]
    by_cases h8 : c % 16 = 8
    · rw [if_pos h8]
      refine ⟨?_, Nat.le_refl _, by simp⟩
      unfold cellsOf
      rw [if_neg (by simp), if_pos rfl, if_pos ⟨rfl, rfl⟩, short_cells hc 8 2 h8]
      rfl
    rw [if_neg h8]
    by_cases h6 : c % 16 = 6
    · rw [if_pos h6]
      refine ⟨?_, Nat.le_refl _, by simp⟩
      unfold cellsOf
      rw [if_neg (by simp), if_neg (by simp), if_pos rfl, if_pos ⟨rfl, rfl⟩, short_cells hc 6 5 h6]
      rfl
    rw [if_neg h6]
    by_cases h25 : c % 16 = 2 ∨ c % 16 = 5
    · rw [if_pos h25]
      cases rest with
      | nil => exact raw
      | cons d r =>
        have hd := hr d (by simp)
        simp only
        by_cases hl : c < 32 ∧ ¬ (-67108864 ≤ wrap32 d ∧ wrap32 d ≤ 67108863)
        · rw [if_pos hl]
          refine ⟨?_, by simp, by simp⟩
          unfold cellsOf
          rcases h25 with h2 | h5
          · rw [if_neg (show ¬ c % 16 = 5 by omega), if_neg (by simp), if_pos rfl, if_pos ⟨rfl, rfl⟩, long_cells hc hd 8 2 h2 hl]
            rfl
          · rw [if_pos h5, if_neg (by simp), if_neg (by simp), if_pos rfl, if_pos ⟨rfl, rfl⟩, long_cells hc hd 6 5 h5 hl]
            rfl
        · rw [if_neg hl]; exact raw
    rw [if_neg h25]
    by_cases h12 : c % 16 = 12
    · rw [if_pos h12]
      cases rest with
      | nil => exact raw
      | cons d r =>
        have hd := hr d (by simp)
        simp only
        by_cases hf : fieldOk (c / 16) = true
        · rw [if_pos hf]
          have hp : pack (unpackOne (c / 16)) = [c / 16] := of_decide_eq_true hf
          refine ⟨?_, by simp, by simp⟩
          unfold cellsOf
          rw [if_neg (by simp), if_neg (by simp), if_neg (by simp), if_pos rfl, if_pos ⟨rfl, rfl, by show (pack (unpackOne (c / 16))).length = 1; rw [hp]; rfl⟩]
          show word 12 (pack (unpackOne (c / 16))) ++ [wrap32 d % 4294967296] = _
          rw [hp]
          have e2 : wrap32 d % 4294967296 = d := by unfold wrap32; omega
          rw [e2]
          simp only [word, List.map_nil, List.cons_append, List.nil_append, List.take_succ_cons, List.take_zero]
          rw [show c / 16 * 16 + 12 = c by omega]
        · rw [if_neg hf]; exact raw
    · rw [if_neg h12]; exact raw
  · rw [if_pos (by omega)]
    by_cases hu : (unpack (c / 16 :: (tailOf rest).map (· / 16))).2 = true
    · rw [if_pos hu]
      obtain ⟨_, hp⟩ := unpack_true hu
      obtain ⟨r, e⟩ := tail_split rest
      have hlen : rest.length = (tailOf rest).length + r.length := by conv => lhs; rw [e]; rw [List.length_append]
      refine ⟨?_, by simp, by simp only; omega⟩
      unfold cellsOf
      rw [if_neg (show ¬ kindOf (c % 16) = 0 by omega), if_neg (show ¬ kindOf (c % 16) = 7 by omega), if_neg (show ¬ kindOf (c % 16) = 8 by omega), if_neg (show ¬ kindOf (c % 16) = 9 by omega), if_pos ⟨show 0 < tagOf (kindOf (c % 16)) by omega, rfl, rfl, rfl⟩]
      show word (tagOf (kindOf (c % 16))) (pack (unpack (c / 16 :: (tailOf rest).map (· / 16))).1) = _
      rw [hp, hk.2.2.1, word, List.take_succ_cons]
      rw [show c / 16 * 16 + c % 16 = c by omega]
      congr 1
      have e3 : rest.take (tailOf rest).length = tailOf rest := by
        conv => lhs; rw [e]
        rw [List.take_left' (by rw [← e])]
      rw [e3, List.map_map]
      refine (List.map_congr_left (g := id) fun x hx => ?_).trans (List.map_id _)
      have := (tail_mem hx).2
      simp only [Function.comp_apply, id]
      omega
    · rw [if_neg hu]; exact raw
/-- Noughts behind cells change no item that has its cells ahead of them. -/
theorem one_zeros (c : Int) (rest : List Int) (k : Nat) (h : (parseOne c (rest ++ List.replicate k 0)).2 ≤ rest.length + 1) : parseOne c rest = parseOne c (rest ++ List.replicate k 0) := by
  cases rest with
  | cons d r =>
    unfold parseOne
    rw [tail_zeros]
    rfl
  | nil =>
    cases k with
    | zero => rfl
    | succ k =>
      revert h
      unfold parseOne
      rw [tail_zeros]
      split
      · intro _; rfl
      split
      · intro _; rfl
      split
      · intro _; rfl
      split
      · simp only [List.nil_append, List.replicate_succ]
        split
        · intro h; simp at h
        · intro _; rfl
      split
      · simp only [List.nil_append, List.replicate_succ]
        split
        · intro h; simp at h
        · intro _; rfl
      · intro _; rfl
theorem drop_mem {l : List Int} {P : Int → Prop} (h : ∀ x ∈ l, P x) (n : Nat) : ∀ x ∈ l.drop n, P x := fun x hx => h x (List.mem_of_mem_drop hx)
theorem one_small (c : Int) (rest : List Int) : (-2147483648 ≤ (parseOne c rest).1.n ∧ (parseOne c rest).1.n ≤ 2147483647) ∧ (parseOne c rest).1.name.length ≤ 1048576 := by
  have raw : (-2147483648 ≤ (rawIt c, 1).1.n ∧ (rawIt c, 1).1.n ≤ 2147483647) ∧ (rawIt c, 1).1.name.length ≤ 1048576 := ⟨⟨by simp [rawIt], by simp [rawIt]⟩, by simp [rawIt]⟩
  have hw := fun x => w32_range x
  have hc := hw c
  unfold parseOne
  repeat' split
  all_goals first
    | exact raw
    | skip
  · rename_i hu
    have := ((okName_iff _).1 (unpack_true hu).1).2.1
    exact ⟨⟨by simp, by simp⟩, by simp only; omega⟩
  · exact ⟨by simp only; omega, by simp⟩
  · exact ⟨by simp only; omega, by simp⟩
  · exact ⟨hw _, by simp⟩
  · exact ⟨hw _, by simp⟩
  · refine ⟨hw _, ?_⟩
    have := unpackOne_length (c / 16)
    simp only; omega
theorem parseF_cells (n : Nat) : ∀ l : List Int, l.length ≤ n → (∀ x ∈ l, 0 ≤ x ∧ x ≤ 4294967295) → (parseF n l).flatMap cellsOf = l ∧ ∀ it ∈ parseF n l, cellsOf it ≠ [] ∧ (-2147483648 ≤ it.n ∧ it.n ≤ 2147483647) ∧ it.name.length ≤ 1048576 := by
  induction n with
  | zero =>
    intro l hl hr
    obtain rfl : l = [] := List.eq_nil_of_length_eq_zero (by omega)
    exact ⟨rfl, by simp [parseF]⟩
  | succ n ih =>
    intro l hl hr
    cases l with
    | nil => exact ⟨rfl, by simp [parseF]⟩
    | cons c rest =>
      obtain ⟨h1, h2, h3⟩ := cells_one c rest (hr c (by simp)) (fun x hx => hr x (by simp [hx]))
      obtain ⟨i1, i2⟩ := ih ((c :: rest).drop (parseOne c rest).2) (by rw [List.length_drop]; omega) (drop_mem hr _)
      rw [parseF]
      refine ⟨?_, fun it hit => ?_⟩
      · rw [List.flatMap_cons, i1, h1, List.take_append_drop]
      · rcases List.mem_cons.1 hit with h | h
        · rw [h]
          refine ⟨?_, one_small c rest⟩
          rw [h1]
          intro e
          have := congrArg List.length e
          rw [List.length_take, List.length_cons, List.length_nil] at this
          omega
        · exact i2 it h
theorem parseF_cut (k : Nat) (its : List It) : ∀ (n m : Nat) (C : List Int), its.flatMap cellsOf = C → (∀ x ∈ C, 0 ≤ x ∧ x ≤ 4294967295) → C.length + k ≤ n → C.length ≤ m → (∀ it ∈ its, cellsOf it ≠ []) →
    (∃ r, parseF n (C ++ List.replicate k 0) = its ++ r) → parseF m C = its := by
  induction its with
  | nil =>
    intro n m C hC hr hn hm hne hp
    obtain rfl : C = [] := by rw [← hC]; rfl
    cases m <;> rfl
  | cons it its ih =>
    intro n m C hC hr hn hm hne hp
    obtain ⟨r, hp⟩ := hp
    cases C with
    | nil =>
      rw [List.flatMap_cons] at hC
      exact absurd (List.append_eq_nil_iff.1 hC).1 (hne it (by simp))
    | cons c rest =>
      rw [List.length_cons] at hn hm
      obtain ⟨n, rfl⟩ : ∃ z, n = z + 1 := ⟨n - 1, by omega⟩
      obtain ⟨m, rfl⟩ : ∃ z, m = z + 1 := ⟨m - 1, by omega⟩
      rw [List.cons_append, parseF, List.cons_append] at hp
      injection hp with hp1 hp2
      have hz : ∀ x ∈ rest ++ List.replicate k 0, 0 ≤ x ∧ x ≤ 4294967295 := by
        intro x hx
        rcases List.mem_append.1 hx with hx | hx
        · exact hr x (by simp [hx])
        · rw [(List.mem_replicate.1 hx).2]; omega
      obtain ⟨h1, h2, h3⟩ := cells_one c (rest ++ List.replicate k 0) (hr c (by simp)) hz
      have hl : (cellsOf it).length = (parseOne c (rest ++ List.replicate k 0)).2 := by
        rw [← hp1, h1, List.length_take, List.length_cons]
        omega
      have hlen : (cellsOf it).length ≤ rest.length + 1 := by
        have := congrArg List.length hC
        rw [List.flatMap_cons, List.length_append, List.length_cons] at this
        omega
      have e := one_zeros c rest k (by omega)
      have hsplit : its.flatMap cellsOf = (c :: rest).drop (parseOne c rest).2 := by
        rw [← hC, List.flatMap_cons, e, ← hl, List.drop_left' rfl]
      rw [parseF, e, hp1]
      congr 1
      rw [← e]
      refine ih n m _ hsplit (drop_mem hr _) (by rw [List.length_drop, List.length_cons]; rw [e]; omega) (by rw [List.length_drop, List.length_cons]; rw [e]; omega) (fun x hx => hne x (by simp [hx])) ⟨r, ?_⟩
      rw [← hp2, e, ← List.cons_append, List.drop_append_of_le_length (by rw [List.length_cons]; omega)]
theorem trimR_split (l : List It) : ∃ k, l = trimR l ++ List.replicate k (rawIt 0) := by
  have h := List.takeWhile_append_dropWhile (p := fun it => decide (it = rawIt 0)) (l := l.reverse)
  refine ⟨(l.reverse.takeWhile (fun it => decide (it = rawIt 0))).length, ?_⟩
  have e : l.reverse.takeWhile (fun it => decide (it = rawIt 0)) = List.replicate (l.reverse.takeWhile (fun it => decide (it = rawIt 0))).length (rawIt 0) := by
    refine List.eq_replicate_of_mem fun x hx => ?_
    have := List.all_takeWhile (p := fun it => decide (it = rawIt 0)) (l := l.reverse)
    exact of_decide_eq_true (List.all_eq_true.1 this x hx)
  unfold trimR
  conv => lhs; rw [← List.reverse_reverse l, ← h, List.reverse_append, e, List.reverse_replicate]
theorem trimR_trimR (l : List It) : trimR (trimR l) = trimR l := by
  unfold trimR
  rw [List.reverse_reverse]
  congr 1
  generalize l.reverse = m
  induction m with
  | nil => rfl
  | cons x m ih =>
    by_cases h : x = rawIt 0
    · rw [List.dropWhile_cons, if_pos (decide_eq_true h)]; exact ih
    · rw [List.dropWhile_cons, if_neg (by simpa using h), List.dropWhile_cons, if_neg (by simpa using h)]
theorem unparseFrom_all (its : List It) : ∀ out : List Int, (∀ it ∈ its, cellsOf it ≠ []) → out.length + (its.flatMap cellsOf).length ≤ 64 → unparseFrom out its = (out ++ its.flatMap cellsOf, true) := by
  induction its with
  | nil => intro out hne hl; rw [unparseFrom, List.flatMap_nil, List.append_nil]
  | cons it its ih =>
    intro out hne hl
    rw [List.flatMap_cons, List.length_append] at hl
    rw [unparseFrom, if_neg ?_, ih _ (fun x hx => hne x (by simp [hx])) (by rw [List.length_append]; omega), List.flatMap_cons, List.append_assoc]
    intro h
    rcases h with h | h
    · exact hne it (by simp) h
    · omega
/-- The items of cells, told again as cells: those cells, but for noughts at their end; and those cells' items are the same. -/
theorem parse_back (l : List Int) (hl : l.length ≤ 64) (hr : ∀ x ∈ l, 0 ≤ x ∧ x ≤ 4294967295) :
    ∃ C k, unparse (parse l) = (C, true) ∧ l = C ++ List.replicate k 0 ∧ parse C = parse l := by
  obtain ⟨h1, h2⟩ := parseF_cells l.length l (Nat.le_refl _) hr
  obtain ⟨k, hk⟩ := trimR_split (parseF l.length l)
  have hp : parse l = trimR (parseF l.length l) := by rw [parse, if_neg (by omega)]
  have hz : (List.replicate k (rawIt 0)).flatMap cellsOf = List.replicate k 0 := by
    clear hk
    induction k with
    | zero => rfl
    | succ k ih => rw [List.replicate_succ, List.flatMap_cons, ih, raw_cells, List.replicate_succ]; rfl
  have hne : ∀ it ∈ trimR (parseF l.length l), cellsOf it ≠ [] := fun it hit => (h2 it (by rw [hk]; exact List.mem_append_left _ hit)).1
  have e : l = (trimR (parseF l.length l)).flatMap cellsOf ++ List.replicate k 0 := by
    conv => lhs; rw [← h1, hk, List.flatMap_append, hz]
  have hlen : ((trimR (parseF l.length l)).flatMap cellsOf).length + k = l.length := by
    have := congrArg List.length e
    rw [List.length_append, List.length_replicate] at this
    omega
  refine ⟨_, k, ?_, e, ?_⟩
  · rw [hp, unparse, unparseFrom_all _ [] hne (by simp only [List.length_nil]; omega), List.nil_append]
  · rw [hp, parse, if_neg (by omega)]
    rw [parseF_cut k (trimR (parseF l.length l)) l.length _ _ rfl (fun x hx => hr x (by rw [e]; exact List.mem_append_left _ hx)) (by omega) (Nat.le_refl _) hne ⟨List.replicate k (rawIt 0), by rw [← e]; exact hk⟩, trimR_trimR]
theorem fill_zeros {C : List Int} {k : Nat} (h : C.length + k ≤ 64) : fill (C ++ List.replicate k 0) = fill C := by
  unfold fill
  rw [List.append_assoc, List.length_append, List.length_replicate, List.replicate_append_replicate]
  congr 2
  omega
/-- What the cells of a word are: its item, or the first cell as it stands. -/
def wordIt (t c : Int) (F : List Int) : It := if (unpack F).2 = true then ⟨kindOf t, (unpack F).1, 0, false, 0⟩ else rawIt c
def tup6 (p : It × Nat) : Int × ByteArray × Int × Bool × Int × Int := (p.1.kind, toB p.1.name, p.1.n, p.1.hex, p.1.raw, (p.2 : Int))
theorem parseOne_word {c : Int} {rest : List Int} (h : 0 < kindOf (c % 16)) : (parseOne c rest).1 = wordIt (c % 16) c (c / 16 :: (tailOf rest).map (· / 16)) := by
  unfold parseOne wordIt
  rw [if_pos h]
  split <;> rfl
theorem range_16 {x : Int} (h : 0 ≤ x ∧ x ≤ 4294967295) : 0 ≤ x / 16 ∧ x / 16 ≤ 4294967295 := by omega
theorem fields_range {F l : List Int} (hF : ∀ x ∈ F, 0 ≤ x ∧ x ≤ 4294967295) (hl : ∀ x ∈ l, 0 ≤ x ∧ x ≤ 4294967295) : ∀ x ∈ F ++ (tailOf l).map (· / 16), 0 ≤ x ∧ x ≤ 4294967295 := by
  intro x hx
  rcases List.mem_append.1 hx with hx | hx
  · exact hF x hx
  · obtain ⟨y, hy, rfl⟩ := List.mem_map.1 hx
    exact range_16 (hl y (tail_mem hy).1)
theorem cells7 (n : Int) (h : Bool) : cellsOf ⟨7, [], n, h, 0⟩ = numCells n h 8 2 := by
  unfold cellsOf
  rw [if_neg (by simp), if_pos rfl, if_pos ⟨rfl, rfl⟩]
theorem cells8 (n : Int) (h : Bool) : cellsOf ⟨8, [], n, h, 0⟩ = numCells n h 6 5 := by
  unfold cellsOf
  rw [if_neg (by simp), if_neg (by simp), if_pos rfl, if_pos ⟨rfl, rfl⟩]
theorem tdiv_16 {x : Int} (h : 0 ≤ x ∧ x ≤ 4294967295) : (Int.tdiv x 16) % 4294967296 = x / 16 := by
  rw [Int.tdiv_eq_ediv_of_nonneg h.1]; omega
theorem tmod_16 {x : Int} (h : 0 ≤ x ∧ x ≤ 4294967295) : Int.tmod x 16 = x % 16 := Int.tmod_eq_emod_of_nonneg h.1
theorem parse_8 {c : Int} {rest : List Int} (h : c % 16 = 8) : parseOne c rest = (⟨7, [], wrap32 c / 32, hexOf c, 0⟩, 1) := by
  unfold parseOne
  have := kindOf_cases (c % 16)
  rw [if_neg (by omega), if_pos h]
theorem parse_6 {c : Int} {rest : List Int} (h : c % 16 = 6) : parseOne c rest = (⟨8, [], wrap32 c / 32, hexOf c, 0⟩, 1) := by
  unfold parseOne
  have := kindOf_cases (c % 16)
  rw [if_neg (by omega), if_neg (by omega), if_pos h]
theorem parse_25_nil {c : Int} (h : c % 16 = 2 ∨ c % 16 = 5) : parseOne c [] = (rawIt c, 1) := by
  unfold parseOne
  have := kindOf_cases (c % 16)
  rw [if_neg (by omega), if_neg (by omega), if_neg (by omega), if_pos h]
theorem parse_25 {c d : Int} {rest : List Int} (h : c % 16 = 2 ∨ c % 16 = 5) : parseOne c (d :: rest) = if c < 32 ∧ ¬ (-67108864 ≤ wrap32 d ∧ wrap32 d ≤ 67108863) then (⟨if c % 16 = 5 then 8 else 7, [], wrap32 d, hexOf c, 0⟩, 2) else (rawIt c, 1) := by
  unfold parseOne
  have := kindOf_cases (c % 16)
  rw [if_neg (by omega), if_neg (by omega), if_neg (by omega), if_pos h]
theorem parse_12_nil {c : Int} (h : c % 16 = 12) : parseOne c [] = (rawIt c, 1) := by
  unfold parseOne
  have := kindOf_cases (c % 16)
  rw [if_neg (by omega), if_neg (by omega), if_neg (by omega), if_neg (by omega), if_pos h]
theorem parse_12 {c d : Int} {rest : List Int} (h : c % 16 = 12) : parseOne c (d :: rest) = if fieldOk (c / 16) = true then (⟨9, unpackOne (c / 16), wrap32 d, false, 0⟩, 2) else (rawIt c, 1) := by
  unfold parseOne
  have := kindOf_cases (c % 16)
  rw [if_neg (by omega), if_neg (by omega), if_neg (by omega), if_neg (by omega), if_pos h]
theorem parse_no {c : Int} {rest : List Int} (hk : kindOf (c % 16) = 0) (h8 : c % 16 ≠ 8) (h6 : c % 16 ≠ 6) (h2 : c % 16 ≠ 2) (h5 : c % 16 ≠ 5) (h12 : c % 16 ≠ 12) : parseOne c rest = (rawIt c, 1) := by
  unfold parseOne
  rw [if_neg (by omega), if_neg h8, if_neg h6, if_neg (by omega), if_neg h12]
theorem parse_word2 {c : Int} {rest : List Int} (h : 0 < kindOf (c % 16)) : parseOne c rest = if (unpack (c / 16 :: (tailOf rest).map (· / 16))).2 = true then (⟨kindOf (c % 16), (unpack (c / 16 :: (tailOf rest).map (· / 16))).1, 0, false, 0⟩, (tailOf rest).length + 1) else (rawIt c, 1) := by
  unfold parseOne
  rw [if_pos h]
theorem parse_length (l : List Int) (hr : ∀ x ∈ l, 0 ≤ x ∧ x ≤ 4294967295) : (parse l).length ≤ 64 := by
  unfold parse
  split
  · simp
  · rename_i h
    obtain ⟨h1, h2⟩ := parseF_cells l.length l (Nat.le_refl _) hr
    obtain ⟨k, hk⟩ := trimR_split (parseF l.length l)
    have hlen : ∀ its : List It, (∀ it ∈ its, cellsOf it ≠ []) → its.length ≤ (its.flatMap cellsOf).length := by
      intro its
      induction its with
      | nil => intro _; simp
      | cons it its ih =>
        intro hne
        have a := ih (fun x hx => hne x (by simp [hx]))
        have b : 0 < (cellsOf it).length := List.length_pos_iff.2 (hne it (by simp))
        rw [List.flatMap_cons, List.length_append, List.length_cons]
        omega
    have a := hlen _ (fun it h => (h2 it h).1)
    rw [h1] at a
    have := congrArg List.length hk
    rw [List.length_append] at this
    omega
theorem unparseFrom_range (l : List It) : ∀ out : List Int, (∀ x ∈ out, 0 ≤ x ∧ x ≤ 4294967295) → (∀ it ∈ l, 0 ≤ it.raw ∧ it.raw ≤ 4294967295) → ∀ x ∈ (unparseFrom out l).1, 0 ≤ x ∧ x ≤ 4294967295 := by
  induction l with
  | nil => intro out h hw; exact h
  | cons it l ih =>
    intro out h hw
    rw [unparseFrom]
    split
    · simp
    · refine ih _ (fun x hx => ?_) (fun y hy => hw y (by simp [hy]))
      rcases List.mem_append.1 hx with hx | hx
      · exact h x hx
      · exact cellsOf_range it (hw it (by simp)) x hx
theorem unparse_range (l : List It) (hw : ∀ it ∈ l, 0 ≤ it.raw ∧ it.raw ≤ 4294967295) : ∀ x ∈ (unparse l).1, 0 ≤ x ∧ x ≤ 4294967295 := unparseFrom_range l [] (by simp) hw
theorem blockOf_range (l : List Int) (b : Int) (hr : ∀ x ∈ l, 0 ≤ x ∧ x ≤ 4294967295) : ∀ x ∈ (blockOf l b).1, 0 ≤ x ∧ x ≤ 4294967295 := by
  unfold blockOf
  split
  · intro x hx
    exact hr x (List.mem_of_mem_take (List.mem_of_mem_drop hx))
  · simp
theorem one_raw (c : Int) (rest : List Int) (hc : 0 ≤ c ∧ c ≤ 4294967295) : 0 ≤ (parseOne c rest).1.raw ∧ (parseOne c rest).1.raw ≤ 4294967295 := by
  unfold parseOne
  repeat' split
  all_goals first
    | exact hc
    | exact ⟨by simp, by simp⟩
theorem parseF_raw (n : Nat) : ∀ l : List Int, (∀ x ∈ l, 0 ≤ x ∧ x ≤ 4294967295) → ∀ it ∈ parseF n l, 0 ≤ it.raw ∧ it.raw ≤ 4294967295 := by
  induction n with
  | zero => intro l hr it hit; simp [parseF] at hit
  | succ n ih =>
    intro l hr it hit
    cases l with
    | nil => simp [parseF] at hit
    | cons c rest =>
      rw [parseF] at hit
      rcases List.mem_cons.1 hit with h | h
      · rw [h]; exact one_raw c rest (hr c (by simp))
      · exact ih _ (drop_mem hr _) it h
theorem parse_small (l : List Int) (hr : ∀ x ∈ l, 0 ≤ x ∧ x ≤ 4294967295) : ∀ it ∈ parse l, (-2147483648 ≤ it.n ∧ it.n ≤ 2147483647) ∧ it.name.length ≤ 1048576 ∧ (0 ≤ it.raw ∧ it.raw ≤ 4294967295) := by
  intro it hit
  unfold parse at hit
  split at hit
  · simp at hit
  · obtain ⟨k, hk⟩ := trimR_split (parseF l.length l)
    have hm : it ∈ parseF l.length l := by rw [hk]; exact List.mem_append_left _ hit
    obtain ⟨_, b, c⟩ := (parseF_cells l.length l (Nat.le_refl _) hr).2 it hm
    exact ⟨b, c, parseF_raw _ l hr it hm⟩
end Go.Proofs.YtfjmpdcflnaogaaDoor.Plain
