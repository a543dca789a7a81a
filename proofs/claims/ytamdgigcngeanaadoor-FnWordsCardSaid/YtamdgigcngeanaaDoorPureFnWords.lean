/-
The law FnWords holds of the printed plain functions, for all arguments that the printed bounds allow.
-/
import Derived.Test.YtamdgigcngeanaaDoorQFnWordsx1
import Derived.Test.YtamdgigcngeanaaDoorQFnWordsx2
import Derived.Test.YtamdgigcngeanaaDoorQFnWordsx3
import Derived.Test.YtamdgigcngeanaaDoorTools
import Derived.Test.YtamdgigcngeanaaDoorLetters
import Derived.Test.YtamdgigcngeanaaDoorHeads
import Derived.Test.YtamdgigcngeanaaDoorSpots
import Derived.Test.YtamdgigcngeanaaDoorNames
import Derived.Test.YtamdgigcngeanaaDoorDraws
import Derived.Test.YtamdgigcngeanaaDoorLines
import Derived.Test.YtamdgigcngeanaaDoorWords
namespace Go.Proofs.YtamdgigcngeanaaDoor.Pure
open Go.RowKit Go.Proofs.YtamdgigcngeanaaDoor.QFnWords Go.Proofs.YtamdgigcngeanaaDoorW.PrintWords Go.Proofs.YtamdgigcngeanaaDoorW.PrintLast Go.Proofs.YtamdgigcngeanaaDoorW.PrintMore Go.Proofs.YtamdgigcngeanaaDoor.Tools Go.Proofs.YtamdgigcngeanaaDoor.Plain
set_option linter.unusedVariables false

/-! ### strings_Index -/
theorem strings_Index_eq (l : List UInt8) : strings_Index.f (toB l) ⟨#[10]⟩ = some (Lib.indexByte l 10) := rfl

/-! ### strings_genSplit -/
theorem wz0 (n : Nat) (h : n ≤ 2000000) : wrap64 ((n : Int) + 0) = (n : Int) := by rw [Int.add_zero, w64 (by omega) (by omega)]
theorem wz1 (n : Nat) (h : n ≤ 2000000) : wrap64 ((n : Int) + 1) = ((n + 1 : Nat) : Int) := by rw [w64 (by omega) (by omega)]; omega
theorem cut_l (p q : List UInt8) : (toB (p ++ 10 :: q)).extract 0 p.length = toB p := by rw [extract_eq, toB_data, List.drop_zero, List.take_left' rfl]
theorem cut_r (p q : List UInt8) : (toB (p ++ 10 :: q)).extract (p.length + 1) (toB (p ++ 10 :: q)).size = toB q := by
  rw [extract_eq, toB_data, toB_size, List.take_of_length_le (Nat.le_refl _), List.drop_append, List.drop_of_length_le (by omega), List.nil_append, show p.length + 1 - p.length = 1 by omega]
  rfl
theorem strings_genSplit_l0 (N : Nat) (hN : N ≤ 1048577) (d : Nat) : ∀ (l : List UInt8) (a : List ByteArray) (i : Nat), l.count 10 = d → i + d = N → a.length = N + 1 → l.length ≤ 1048576 →
    Ev (fun k => strings_genSplit.l0 k (toB l) ⟨#[10]⟩ 0 (N : Int) a (i : Int)) (a.take i ++ (splitFrom [] l).map toB) := by
  induction d with
  | zero =>
    intro l a i hc hi ha hl
    refine Ev.step (fun k => by rw [strings_genSplit.l0]) ?_
    rw [w64 (x := (i : Int) + 1) (by omega) (by omega), show ((i : Int) + 1) = ((i + 1 : Nat) : Int) by omega, Int.toNat_natCast, Int.toNat_natCast]
    refine ev_neg (by omega) (ev_pos (by omega) (ev_pos (by omega) (ev_pos (by omega) (ev_pos (by omega) (ev_ret ?_)))))
    rw [split_none l [] hc, List.take_succ_eq_append_getElem (by rw [List.length_set]; omega), List.take_set_of_le (Nat.le_refl _), List.getElem_set_self]
    rfl
  | succ d ih =>
    intro l a i hc hi ha hl
    obtain ⟨p, q, rfl, hp⟩ := split_at l (by omega)
    have hq : q.count 10 = d := by
      rw [List.count_append, hp, List.count_cons_self] at hc
      omega
    rw [List.length_append, List.length_cons] at hl
    have hsz : (toB (p ++ 10 :: q)).size = p.length + q.length + 1 := by rw [toB_size, List.length_append, List.length_cons]; omega
    have next := ih q (a.set i (toB p)) (i + 1) hq (by omega) (by rw [List.length_set]; exact ha) (by omega)
    rw [List.take_succ_eq_append_getElem (by rw [List.length_set]; omega), List.take_set_of_le (Nat.le_refl _), List.getElem_set_self, List.append_assoc, List.singleton_append] at next
    refine Ev.step (fun k => by rw [strings_genSplit.l0]) ?_
    refine ev_pos (by omega) (ev_bind (ev_eq (strings_Index_eq _)) ?_)
    rw [index_at p q hp, toB_size_one, split_some p q [] hp]
    rw [wz0 p.length (by omega), wz1 p.length (by omega), Int.toNat_natCast, Int.toNat_natCast, Int.toNat_natCast, cut_l, cut_r, wz1 i (by omega), List.nil_append, List.map_cons]
    generalize (toB (p ++ 10 :: q)).size = z at hsz ⊢
    generalize strings_genSplit.l0 = F at next ⊢
    refine ev_neg (by omega) (ev_pos (by omega) (ev_pos (by omega) (ev_pos (by omega) (ev_pos (by omega) (ev_pos (by omega) (ev_pos (by omega) ?_))))))
    exact next
theorem strings_genSplit_ev (l : List UInt8) (hl : l.length ≤ 1048576) : Ev (fun k => strings_genSplit.f k (toB l) ⟨#[10]⟩ 0 (-1)) ((splitFrom [] l).map toB) := by
  have hc := List.count_le_length (a := (10 : UInt8)) (l := l)
  have e1 : strings_Count.f (toB l) ⟨#[10]⟩ = some ((l.count 10 : Nat) : Int) := rfl
  refine ev_neg (by omega) (ev_neg (by rw [ba_toList]; simp) (ev_pos (by omega) (ev_bind (ev_eq e1) ?_)))
  have e2 : mn (wrap64 (((l.count 10 : Nat) : Int) + 1)) (wrap64 (((toB l).size : Int) + 1)) = ((l.count 10 + 1 : Nat) : Int) := by
    rw [toB_size, w64 (x := ((l.count 10 : Nat) : Int) + 1) (by omega) (by omega), w64 (by omega) (by omega)]
    unfold mn
    split <;> omega
  refine Ev.step (fun k => by rw [strings_genSplit.j0]) ?_
  rw [e2, Int.toNat_natCast, w64 (by omega) (by omega), show ((l.count 10 + 1 : Nat) : Int) - 1 = (l.count 10 : Int) by omega]
  refine ev_pos (by omega) (ev_pos (by omega) ?_)
  have e := strings_genSplit_l0 (l.count 10) (by omega) (l.count 10) l (List.replicate (l.count 10 + 1) ⟨#[]⟩) 0 rfl (Nat.zero_add _) (by rw [List.length_replicate]) hl
  exact e

/-! ### impl_Lines -/
theorem impl_Lines_ev (l : List UInt8) (hl : l.length ≤ 1048576) : Ev (fun k => impl_Lines.f k (toB l)) ((linesOf l).map toB) := by
  have hlen := splitFrom_length l []
  have hc := List.count_le_length (a := (10 : UInt8)) (l := l)
  have es : Ev (fun k => strings_Split.f k (toB l) ⟨#[10]⟩) ((splitFrom [] l).map toB) := ev_bind (strings_genSplit_ev l hl) (ev_ret rfl)
  refine ev_bind es ?_
  have e1 : wrap64 ((((splitFrom [] l).map toB).length : Int) - 1) = (l.count 10 : Int) := by rw [List.length_map, hlen, w64 (by omega) (by omega)]; omega
  have hne := splitFrom_ne l []
  have hlast : (splitFrom [] l).getLast? = some ((splitFrom [] l)[l.count 10]'(by omega)) := by
    rw [List.getLast?_eq_getElem?, show (splitFrom [] l).length - 1 = l.count 10 by omega]
    exact List.getElem?_eq_getElem _
  have hrd : rdOf ByteArray.empty ((splitFrom [] l).map toB) (l.count 10 : Int) = toB ((splitFrom [] l)[l.count 10]'(by omega)) := by
    have hz : l.count 10 < (splitFrom [] l).length := by omega
    simp [rdOf, List.getElem?_eq_getElem hz]
  rw [e1, hrd, linesOf, lines_split, trimLast, hlast]
  have hm : ((splitFrom [] l).map toB).length = l.count 10 + 1 := by rw [List.length_map]; exact hlen
  refine ev_pos (by omega) (ev_pos (by omega) (ev_ite (fun h => ev_pos (by omega) (ev_ret ?_)) (fun h => ev_ret ?_)))
  · rw [if_pos (by rw [(toB_empty_iff _).1 h]), Int.toNat_natCast, List.dropLast_eq_take, hlen, Nat.add_sub_cancel, List.map_take]
  · rw [if_neg (fun e => h ((toB_empty_iff _).2 (Option.some.inj e)))]

/-! ### laws_big -/
theorem laws_big_eq (l : List Int) : laws_big.f l = some (decide ((l.length : Int) > 1048576)) := rfl

/-! ### spec_l01New -/
theorem spec_l01New_l0 (l : List Int) (hl : l.length ≤ 1048576) (d : Nat) : ∀ (i : Nat) (h : Int), i + d = l.length → ∃ h', Ev (fun k => spec_l01New.l0 k l h (i : Int)) (l, 0, h') := by
  induction d with
  | zero =>
    intro i h hi
    refine ⟨h, Ev.step (fun k => by rw [spec_l01New.l0]) ?_⟩
    exact ev_neg (by omega) (ev_ret rfl)
  | succ d ih =>
    intro i h hi
    by_cases h4 : (i : Int) < 4000
    · obtain ⟨h', e⟩ := ih (i + 1) (Go.bits .and .i64 (wrap64 ((wrap64 ((wrap64 (h * 131)) + (wrap64 (rd l i)))) + 7)) 1073741823) (by omega)
      refine ⟨h', Ev.step (fun k => by rw [spec_l01New.l0]) ?_⟩
      refine ev_pos (by omega) (ev_pos h4 (ev_pos (by omega) ?_))
      rw [w64 (x := (i : Int) + 1) (by omega) (by omega), show ((i : Int) + 1) = ((i + 1 : Nat) : Int) by omega]
      exact e
    · refine ⟨h, Ev.step (fun k => by rw [spec_l01New.l0]) ?_⟩
      exact ev_pos (by omega) (ev_neg h4 (ev_ret rfl))
theorem spec_l01New_ev (l : List Int) (hl : l.length ≤ 1048576) : ∃ h, Ev (fun k => spec_l01New.f k l) (l, 0, h) := spec_l01New_l0 l hl l.length 0 _ (by omega)

/-! ### spec_l01Byte -/
theorem spec_l01Byte_eq {b : List Int} {i : Int} (h : Int) (hc : Cur b i) : ∃ r i' h', spec_l01Byte.f b i h = some (r, i', h') ∧ 0 ≤ r ∧ r ≤ 255 ∧ Cur b i' := by
  obtain ⟨c0, c1, c2⟩ := hc
  unfold spec_l01Byte.f
  by_cases hlt : i < (b.length : Int)
  · rw [if_pos hlt, if_pos c1]
    have := and_255 (wrap64 ((Go.bits .and .i64 (Go.bits .xor .i64 ((wrap64 ((wrap64 (h * 6364136223846793005)) + 1442695040888963407)) / 8589934592) ((wrap64 ((wrap64 (h * 6364136223846793005)) + 1442695040888963407)) / 35184372088832)) 255) + (wrap64 (rd b i))))
    exact ⟨_, _, _, rfl, this.1, this.2, c0, by rw [w64 (by omega) (by omega)]; omega, by rw [w64 (by omega) (by omega)]; omega⟩
  · rw [if_neg hlt]
    have := and_255 (Go.bits .xor .i64 ((wrap64 ((wrap64 (h * 6364136223846793005)) + 1442695040888963407)) / 8589934592) ((wrap64 ((wrap64 (h * 6364136223846793005)) + 1442695040888963407)) / 35184372088832))
    exact ⟨_, _, _, rfl, this.1, this.2, c0, c1, c2⟩

/-! ### spec_l01Below -/
theorem spec_l01Below_eq {b : List Int} {i : Int} (h n : Int) (hc : Cur b i) (hn : 0 < n) : ∃ r i' h', spec_l01Below.f b i h n = some (r, i', h') ∧ 0 ≤ r ∧ r < n ∧ Cur b i' := by
  unfold spec_l01Below.f
  rw [if_neg (by omega)]
  by_cases h2 : n ≤ 256
  · obtain ⟨r, i1, h1, e, r0, r1, c1⟩ := spec_l01Byte_eq h hc
    have := tmod_range r0 hn
    rw [if_pos h2, e]
    simp only [Option.bind_some]
    rw [if_neg (by omega)]
    exact ⟨_, _, _, rfl, this.1, this.2, c1⟩
  · obtain ⟨x, i1, h1, e1, x0, x1, c1⟩ := spec_l01Byte_eq h hc
    obtain ⟨y, i2, h2', e2, y0, y1, c2⟩ := spec_l01Byte_eq h1 c1
    obtain ⟨z, i3, h3, e3, z0, z1, c3⟩ := spec_l01Byte_eq h2' c2
    obtain ⟨v, i4, h4, e4, v0, v1, c4⟩ := spec_l01Byte_eq h3 c3
    rw [if_neg h2, e1]
    simp only [Option.bind_some]
    rw [e2]
    simp only [Option.bind_some]
    rw [e3]
    simp only [Option.bind_some]
    rw [e4]
    simp only [Option.bind_some]
    rw [if_neg (by omega)]
    have e5 : (wrap64 ((wrap64 ((wrap64 ((wrap64 (x * 16777216)) + (wrap64 (y * 65536)))) + (wrap64 (z * 256)))) + v)) = x * 16777216 + y * 65536 + z * 256 + v := by
      rw [w64 (x := x * 16777216) (by omega) (by omega), w64 (x := y * 65536) (by omega) (by omega), w64 (x := z * 256) (by omega) (by omega), w64 (x := x * 16777216 + y * 65536) (by omega) (by omega), w64 (x := x * 16777216 + y * 65536 + z * 256) (by omega) (by omega), w64 (by omega) (by omega)]
    rw [e5]
    have := tmod_range (x := x * 16777216 + y * 65536 + z * 256 + v) (by omega) hn
    exact ⟨_, _, _, rfl, this.1, this.2, c4⟩

/-! ### spec_l01Pick -/
theorem spec_l01Pick_eq {b : List Int} {i : Int} (h : Int) (l : List ByteArray) (hc : Cur b i) (hn : 0 < l.length) : ∃ r i' h', spec_l01Pick.f b i h l = some (r, i', h') ∧ r ∈ l ∧ Cur b i' := by
  obtain ⟨r, i', h', e, r0, r1, c⟩ := spec_l01Below_eq h (l.length : Int) hc (by omega)
  unfold spec_l01Pick.f
  rw [e]
  simp only [Option.bind_some]
  rw [if_pos r0, if_pos r1]
  exact ⟨_, _, _, rfl, rdOf_mem r0 r1, c⟩

/-! ### spec_DrawWords -/
theorem spec_DrawWords_l0 {b : List Int} (n : Nat) (hn : n ≤ 7) (d : Nat) : ∀ (i : Nat) (acc : List UInt8) (p h : Int), i + d = n → acc.length ≤ 2 * i → Cur b p → ∃ s, Ev (fun k => spec_DrawWords.l0 k (toB acc) (n : Int) (i : Int) b p h) (toB s) ∧ s.length ≤ 14 := by
  induction d with
  | zero =>
    intro i acc p h hi ha hc
    exact ⟨acc, Ev.step (fun k => by rw [spec_DrawWords.l0]) (ev_neg (by omega) (ev_ret rfl)), by omega⟩
  | succ d ih =>
    intro i acc p h hi ha hc
    obtain ⟨t, i2, h2, e2, m2, c2⟩ := spec_l01Pick_eq h (([(⟨#[97]⟩ : ByteArray), (⟨#[32]⟩ : ByteArray), (⟨#[98, 99]⟩ : ByteArray), (⟨#[9]⟩ : ByteArray), (⟨#[]⟩ : ByteArray), (⟨#[10]⟩ : ByteArray)] : List ByteArray)) hc (by decide)
    have ht : t.size ≤ 2 := by
      simp only [List.mem_cons, List.not_mem_nil, or_false] at m2
      rcases m2 with rfl | rfl | rfl | rfl | rfl | rfl <;> decide
    obtain ⟨t, rfl⟩ : ∃ l, t = toB l := ⟨t.data.toList, (toB_self t).symm⟩
    rw [toB_size] at ht
    obtain ⟨s, e, hs⟩ := ih (i + 1) (acc ++ t) i2 h2 (by omega) (by rw [List.length_append]; omega) c2
    refine ⟨s, Ev.step (fun k => by rw [spec_DrawWords.l0]) ?_, hs⟩
    refine ev_pos (by omega) (ev_bind (ev_eq e2) (ev_pos (by rw [toB_size, toB_size]; omega) ?_))
    rw [w64 (by omega) (by omega), show ((i : Int) + 1) = ((i + 1 : Nat) : Int) by omega, toB_append]
    exact e
theorem spec_DrawWords_ev (l : List Int) (hl : l.length ≤ 1048576) : ∃ s, Ev (fun k => spec_DrawWords.f k l) (toB s) ∧ s.length ≤ 14 := by
  obtain ⟨h, e⟩ := spec_l01New_ev l hl
  obtain ⟨r, i1, h1, e1, r0, r1, c1⟩ := spec_l01Below_eq (b := l) (i := 0) h 7 ⟨hl, by omega, by omega⟩ (by omega)
  obtain ⟨n, rfl⟩ := Int.eq_ofNat_of_zero_le r0
  obtain ⟨s, e2, hs⟩ := spec_DrawWords_l0 (b := l) n (by omega) n 0 [] i1 h1 (by omega) (by simp) c1
  exact ⟨s, ev_bind e (ev_bind (ev_eq e1) e2), hs⟩

/-! ### impl_isSpace -/
theorem impl_isSpace_eq (b : UInt8) : impl_isSpace.f (b.toNat : Int) = some (blankB b) := by
  unfold impl_isSpace.f
  have hb := blank_iff b
  by_cases h1 : (b.toNat : Int) = 32
  · rw [if_pos h1, hb.2 (.inl h1)]
  rw [if_neg h1]
  by_cases h2 : (b.toNat : Int) = 10
  · rw [if_pos h2, hb.2 (.inr (.inr h2))]
  rw [if_neg h2]
  by_cases h3 : (b.toNat : Int) = 9
  · rw [hb.2 (.inr (.inl h3)), h3]; rfl
  · have : blankB b = false := by
      cases hc : blankB b with
      | false => rfl
      | true => have := hb.1 hc; omega
    rw [this]; simp [h3]

/-! ### impl_spots -/
theorem impl_spots_loops (s : ByteArray) (hs : s.size ≤ 1048576) (d : Nat) : ∀ i : Nat, i + d = s.size →
    (∀ ws : List S51, ws.length + d ≤ 1048577 → Ev (fun k => impl_spots.l0 k s ws (i : Int)) (ws ++ (spotsC (s.data.toList.drop i) none i).map (fun c => (⟨toB c.1, (c.2 : Int)⟩ : S51)))) ∧
    (∀ (ws : List S51) (a : Nat), a ≤ i → ws.length + d ≤ 1048576 → Ev (fun k => impl_spots.l1 k s ws (i : Int) (a : Int)) (ws ++ (spotsC (s.data.toList.drop i) (some ((s.data.toList.take i).drop a, a)) i).map (fun c => (⟨toB c.1, (c.2 : Int)⟩ : S51)))) := by
  induction d with
  | zero =>
    intro i hi
    have hd : s.data.toList.drop i = [] := List.drop_of_length_le (by rw [← size_eq]; omega)
    have h0 : ∀ ws : List S51, Ev (fun k => impl_spots.l0 k s ws (i : Int)) (ws ++ (spotsC (s.data.toList.drop i) none i).map (fun c => (⟨toB c.1, (c.2 : Int)⟩ : S51))) := by
      intro ws
      refine Ev.step (fun k => by rw [impl_spots.l0]) ?_
      refine ev_neg (by omega) (ev_ret ?_)
      rw [hd]; simp [spotsC]
    refine ⟨fun ws _ => h0 ws, fun ws a ha hw => ?_⟩
    refine Ev.step (fun k => by rw [impl_spots.l1]) ?_
    refine ev_neg (by omega) (ev_pos (by omega) (ev_pos (by omega) (ev_pos (by omega) (ev_pos (by omega) ?_))))
    refine ev_to (h0 _) ?_
    rw [hd]; simp [spotsC, extract_eq]
  | succ d ih =>
    intro i hi
    have hlt : i < s.size := by omega
    have hn : wrap64 ((i : Int) + 1) = ((i + 1 : Nat) : Int) := by rw [w64 (by omega) (by omega)]; omega
    obtain ⟨ih0, ih1⟩ := ih (i + 1) (by omega)
    cases hb : blankB s[i] with
    | true =>
      have h0 : ∀ ws : List S51, ws.length + (d + 1) ≤ 1048577 → Ev (fun k => impl_spots.l0 k s ws (i : Int)) (ws ++ (spotsC (s.data.toList.drop i) none i).map (fun c => (⟨toB c.1, (c.2 : Int)⟩ : S51))) := by
        intro ws hw
        refine Ev.step (fun k => by rw [impl_spots.l0]) ?_
        refine ev_pos (by omega) (ev_pos (by omega) (ev_bind (ev_eq (by rw [bt_at hlt, impl_isSpace_eq, hb])) (ev_pos rfl ?_)))
        rw [hn]
        refine ev_to (ih0 ws (by omega)) ?_
        rw [drop_cons hlt]; simp [spotsC, hb]
      refine ⟨h0, fun ws a ha hw => ?_⟩
      refine Ev.step (fun k => by rw [impl_spots.l1]) ?_
      refine ev_pos (by omega) (ev_pos (by omega) (ev_bind (ev_eq (by rw [bt_at hlt, impl_isSpace_eq, hb])) (ev_pos rfl (ev_pos (by omega) (ev_pos (by omega) (ev_pos (by omega) (ev_pos (by omega) ?_)))))))
      refine ev_to (h0 _ (by simp; omega)) ?_
      rw [drop_cons hlt]; simp [spotsC, hb, extract_eq]
    | false =>
      have h1 : ∀ (ws : List S51) (a : Nat), a ≤ i → ws.length + (d + 1) ≤ 1048577 → Ev (fun k => impl_spots.l1 k s ws (i : Int) (a : Int)) (ws ++ (spotsC (s.data.toList.drop i) (some ((s.data.toList.take i).drop a, a)) i).map (fun c => (⟨toB c.1, (c.2 : Int)⟩ : S51))) := by
        intro ws a ha hw
        refine Ev.step (fun k => by rw [impl_spots.l1]) ?_
        refine ev_pos (by omega) (ev_pos (by omega) (ev_bind (ev_eq (by rw [bt_at hlt, impl_isSpace_eq, hb])) (ev_neg (by simp) ?_)))
        rw [hn]
        refine ev_to (ih1 ws a (by omega) (by omega)) ?_
        rw [drop_cons hlt, cut_snoc hlt ha]; simp [spotsC, hb]
      refine ⟨fun ws hw => ?_, fun ws a ha hw => h1 ws a ha (by omega)⟩
      refine Ev.step (fun k => by rw [impl_spots.l0]) ?_
      refine ev_pos (by omega) (ev_pos (by omega) (ev_bind (ev_eq (by rw [bt_at hlt, impl_isSpace_eq, hb])) (ev_neg (by simp) ?_)))
      refine ev_to (h1 ws i (by omega) (by omega)) ?_
      rw [drop_cons hlt]; simp [spotsC, hb]
theorem impl_spots_ev (s : ByteArray) (hs : s.size ≤ 1048576) : Ev (fun k => impl_spots.f k s) ((spotsOf s.data.toList).map (fun c => (⟨toB c.1, (c.2 : Int)⟩ : S51))) :=
  ev_to (((impl_spots_loops s hs s.size) 0 (by omega)).1 [] (by simp; omega)) (by simp [spotsOf])

/-! ### impl_Words -/
theorem impl_Words_l0 (xs : List S51) (hx : xs.length ≤ 1048577) (d : Nat) : ∀ (ws : List ByteArray) (i : Nat), i + d = xs.length → ws.length = i → Ev (fun k => impl_Words.l0 k ws xs (xs.length : Int) (i : Int)) (ws ++ (xs.drop i).map (·.f0)) := by
  induction d with
  | zero =>
    intro ws i hi hw
    refine Ev.step (fun k => by rw [impl_Words.l0]) ?_
    refine ev_neg (by omega) (ev_ret ?_)
    rw [List.drop_of_length_le (by omega)]; simp
  | succ d ih =>
    intro ws i hi hw
    refine Ev.step (fun k => by rw [impl_Words.l0]) ?_
    refine ev_pos (by omega) (ev_pos (by omega) (ev_pos (by omega) (ev_pos (by omega) ?_)))
    rw [w64 (by omega) (by omega), show ((i : Int) + 1) = ((i + 1 : Nat) : Int) by omega]
    refine ev_to (ih _ (i + 1) (by omega) (by simp [hw])) ?_
    have e : rd_T51 xs (i : Int) = xs[i] := by simp [rd_T51, List.getElem?_eq_getElem (show i < xs.length by omega)]
    rw [e, List.drop_eq_getElem_cons (by omega : i < xs.length), List.map_cons, List.append_assoc]
    rfl
theorem impl_Words_ev (s : ByteArray) (hs : s.size ≤ 1048576) : Ev (fun k => impl_Words.f k s) ((spotsOf s.data.toList).map (fun c => toB c.1)) := by
  refine ev_bind (impl_spots_ev s hs) ?_
  have hl := spotsOf_length s.data.toList
  rw [← size_eq] at hl
  refine ev_to (impl_Words_l0 _ (by rw [List.length_map]; omega) _ [] 0 (Nat.zero_add _) rfl) ?_
  simp

/-! ### spec_DrawLines -/
theorem spec_DrawLines_l0 {b : List Int} (n : Nat) (hn : n ≤ 6) (d : Nat) : ∀ (i : Nat) (acc : List UInt8) (p h : Int), i + d = n → acc.length ≤ 2 * i → Cur b p → ∃ s, Ev (fun k => spec_DrawLines.l0 k (toB acc) (n : Int) (i : Int) b p h) (toB s) ∧ s.length ≤ 14 := by
  induction d with
  | zero =>
    intro i acc p h hi ha hc
    exact ⟨acc, Ev.step (fun k => by rw [spec_DrawLines.l0]) (ev_neg (by omega) (ev_ret rfl)), by omega⟩
  | succ d ih =>
    intro i acc p h hi ha hc
    obtain ⟨t, i2, h2, e2, m2, c2⟩ := spec_l01Pick_eq h (([(⟨#[97]⟩ : ByteArray), (⟨#[10]⟩ : ByteArray), (⟨#[98, 99]⟩ : ByteArray), (⟨#[10]⟩ : ByteArray), (⟨#[]⟩ : ByteArray)] : List ByteArray)) hc (by decide)
    have ht : t.size ≤ 2 := by
      simp only [List.mem_cons, List.not_mem_nil, or_false] at m2
      rcases m2 with rfl | rfl | rfl | rfl | rfl <;> decide
    obtain ⟨t, rfl⟩ : ∃ l, t = toB l := ⟨t.data.toList, (toB_self t).symm⟩
    rw [toB_size] at ht
    obtain ⟨s, e, hs⟩ := ih (i + 1) (acc ++ t) i2 h2 (by omega) (by rw [List.length_append]; omega) c2
    refine ⟨s, Ev.step (fun k => by rw [spec_DrawLines.l0]) ?_, hs⟩
    refine ev_pos (by omega) (ev_bind (ev_eq e2) (ev_pos (by rw [toB_size, toB_size]; omega) ?_))
    rw [w64 (by omega) (by omega), show ((i : Int) + 1) = ((i + 1 : Nat) : Int) by omega, toB_append]
    exact e
theorem spec_DrawLines_ev (l : List Int) (hl : l.length ≤ 1048576) : ∃ s, Ev (fun k => spec_DrawLines.f k l) (toB s) ∧ s.length ≤ 14 := by
  obtain ⟨h, e⟩ := spec_l01New_ev l hl
  obtain ⟨r, i1, h1, e1, r0, r1, c1⟩ := spec_l01Below_eq (b := l) (i := 0) h 6 ⟨hl, by omega, by omega⟩ (by omega)
  obtain ⟨n, rfl⟩ := Int.eq_ofNat_of_zero_le r0
  obtain ⟨s, e2, hs⟩ := spec_DrawLines_l0 (b := l) n (by omega) n 0 [] i1 h1 (by omega) (by simp) c1
  exact ⟨s, ev_bind e (ev_bind (ev_eq e1) e2), hs⟩

/-! ### laws_sameTexts -/
theorem laws_sameTexts_l0 (l : List ByteArray) (hl : l.length ≤ 1048577) (d : Nat) : ∀ i : Nat, i + d = l.length → Ev (fun k => laws_sameTexts.l0 k l l (i : Int)) true := by
  induction d with
  | zero =>
    intro i hi
    exact Ev.step (fun k => by rw [laws_sameTexts.l0]) (ev_neg (by omega) (ev_ret rfl))
  | succ d ih =>
    intro i hi
    refine Ev.step (fun k => by rw [laws_sameTexts.l0]) ?_
    refine ev_pos (by omega) (ev_pos (by omega) (ev_pos (by omega) (ev_pos rfl ?_)))
    rw [w64 (by omega) (by omega), show ((i : Int) + 1) = ((i + 1 : Nat) : Int) by omega]
    exact ih (i + 1) (by omega)
theorem laws_sameTexts_ev (l : List ByteArray) (hl : l.length ≤ 1048577) : Ev (fun k => laws_sameTexts.f k l l) true :=
  ev_pos rfl (laws_sameTexts_l0 l hl l.length 0 (by omega))

/-! ### spec_l01Blank -/
theorem spec_l01Blank_eq (b : UInt8) : spec_l01Blank.f (b.toNat : Int) = some (blankB b) := by
  unfold spec_l01Blank.f
  have hb := blank_iff b
  by_cases h1 : (b.toNat : Int) = 32
  · rw [if_pos h1, hb.2 (.inl h1)]
  rw [if_neg h1]
  by_cases h2 : (b.toNat : Int) = 9
  · rw [if_pos h2, hb.2 (.inr (.inl h2))]
  rw [if_neg h2]
  by_cases h3 : (b.toNat : Int) = 10
  · rw [hb.2 (.inr (.inr h3)), h3]; rfl
  · have : blankB b = false := by
      cases hc : blankB b with
      | false => rfl
      | true => have := hb.1 hc; omega
    rw [this]; simp [h3]

/-! ### spec_Words -/
theorem spec_Words_loops (s : ByteArray) (hs : s.size ≤ 1048576) (d : Nat) : ∀ i : Nat, i + d = s.size →
    (∀ ws : List ByteArray, ws.length + d ≤ 1048577 → Ev (fun k => spec_Words.l0 k s ws (i : Int)) (ws ++ (spotsC (s.data.toList.drop i) none i).map (fun c => toB c.1))) ∧
    (∀ (ws : List ByteArray) (a : Nat), a ≤ i → ws.length + d ≤ 1048576 → Ev (fun k => spec_Words.l1 k s ws (a : Int) (i : Int)) (ws ++ (spotsC (s.data.toList.drop i) (some ((s.data.toList.take i).drop a, a)) i).map (fun c => toB c.1))) := by
  induction d with
  | zero =>
    intro i hi
    have hd : s.data.toList.drop i = [] := List.drop_of_length_le (by rw [← size_eq]; omega)
    have h0 : ∀ ws : List ByteArray, Ev (fun k => spec_Words.l0 k s ws (i : Int)) (ws ++ (spotsC (s.data.toList.drop i) none i).map (fun c => toB c.1)) := by
      intro ws
      refine Ev.step (fun k => by rw [spec_Words.l0]) ?_
      refine ev_neg (by omega) (ev_ret ?_)
      rw [hd]; simp [spotsC]
    refine ⟨fun ws _ => h0 ws, fun ws a ha hw => ?_⟩
    refine Ev.step (fun k => by rw [spec_Words.l1]) ?_
    refine ev_neg (by omega) (ev_pos (by omega) (ev_pos (by omega) (ev_pos (by omega) (ev_pos (by omega) ?_))))
    refine ev_to (h0 _) ?_
    rw [hd]; simp [spotsC, extract_eq]
  | succ d ih =>
    intro i hi
    have hlt : i < s.size := by omega
    have hn : wrap64 ((i : Int) + 1) = ((i + 1 : Nat) : Int) := by rw [w64 (by omega) (by omega)]; omega
    obtain ⟨ih0, ih1⟩ := ih (i + 1) (by omega)
    cases hb : blankB s[i] with
    | true =>
      have h0 : ∀ ws : List ByteArray, ws.length + (d + 1) ≤ 1048577 → Ev (fun k => spec_Words.l0 k s ws (i : Int)) (ws ++ (spotsC (s.data.toList.drop i) none i).map (fun c => toB c.1)) := by
        intro ws hw
        refine Ev.step (fun k => by rw [spec_Words.l0]) ?_
        refine ev_pos (by omega) (ev_pos (by omega) (ev_bind (ev_eq (by rw [bt_at hlt, spec_l01Blank_eq, hb])) (ev_pos rfl ?_)))
        rw [hn]
        refine ev_to (ih0 ws (by omega)) ?_
        rw [drop_cons hlt]; simp [spotsC, hb]
      refine ⟨h0, fun ws a ha hw => ?_⟩
      refine Ev.step (fun k => by rw [spec_Words.l1]) ?_
      refine ev_pos (by omega) (ev_pos (by omega) (ev_bind (ev_eq (by rw [bt_at hlt, spec_l01Blank_eq, hb])) (ev_pos rfl (ev_pos (by omega) (ev_pos (by omega) (ev_pos (by omega) (ev_pos (by omega) ?_)))))))
      refine ev_to (h0 _ (by simp; omega)) ?_
      rw [drop_cons hlt]; simp [spotsC, hb, extract_eq]
    | false =>
      have h1 : ∀ (ws : List ByteArray) (a : Nat), a ≤ i → ws.length + (d + 1) ≤ 1048577 → Ev (fun k => spec_Words.l1 k s ws (a : Int) (i : Int)) (ws ++ (spotsC (s.data.toList.drop i) (some ((s.data.toList.take i).drop a, a)) i).map (fun c => toB c.1)) := by
        intro ws a ha hw
        refine Ev.step (fun k => by rw [spec_Words.l1]) ?_
        refine ev_pos (by omega) (ev_pos (by omega) (ev_bind (ev_eq (by rw [bt_at hlt, spec_l01Blank_eq, hb])) (ev_neg (by simp) ?_)))
        rw [hn]
        refine ev_to (ih1 ws a (by omega) (by omega)) ?_
        rw [drop_cons hlt, cut_snoc hlt ha]; simp [spotsC, hb]
      refine ⟨fun ws hw => ?_, fun ws a ha hw => h1 ws a ha (by omega)⟩
      refine Ev.step (fun k => by rw [spec_Words.l0]) ?_
      refine ev_pos (by omega) (ev_pos (by omega) (ev_bind (ev_eq (by rw [bt_at hlt, spec_l01Blank_eq, hb])) (ev_neg (by simp) ?_)))
      refine ev_to (h1 ws i (by omega) (by omega)) ?_
      rw [drop_cons hlt]; simp [spotsC, hb]
theorem spec_Words_ev (s : ByteArray) (hs : s.size ≤ 1048576) : Ev (fun k => spec_Words.f k s) ((spotsOf s.data.toList).map (fun c => toB c.1)) :=
  ev_to (((spec_Words_loops s hs s.size) 0 (by omega)).1 [] (by simp; omega)) (by simp [spotsOf])

/-! ### FnWords -/
theorem rdOf_map (ws : List (List UInt8)) (i : Nat) (h : i < ws.length) : rdOf ByteArray.empty (ws.map toB) (i : Int) = toB ws[i] := by
  have hz : i < (ws.map toB).length := by rw [List.length_map]; exact h
  simp [rdOf, List.getElem?_eq_getElem h]
theorem laws_FnWords_l0 (x0 : List Int) (x3 : ByteArray) (ws : List (List UInt8)) (full : List UInt8) (hf : full.length ≤ 1000) (hw : ws.length ≤ 1000)
    (he : Ev (fun k => (spec_DrawLines.f k x0).bind fun t219 => ((impl_Lines.f k t219).bind fun t220 => (laws_FnWords.l1 k x3 (ws.map toB) (toB full) t219 t220 (⟨#[]⟩ : ByteArray) 0))) true) (d : Nat) :
    ∀ (i : Nat) (acc : List UInt8), i + d = ws.length → acc ++ joinSp (ws.drop i) = full → Ev (fun k => laws_FnWords.l0 k x0 x3 (ws.map toB) (toB acc) (i : Int)) true := by
  induction d with
  | zero =>
    intro i acc hi ha
    rw [List.drop_of_length_le (by omega), joinSp, List.flatMap_nil, List.append_nil] at ha
    subst ha
    exact Ev.step (fun k => by rw [laws_FnWords.l0]) (ev_neg (by rw [List.length_map]; omega) he)
  | succ d ih =>
    intro i acc hi ha
    have hlt : i < ws.length := by omega
    rw [List.drop_eq_getElem_cons hlt, joinSp, List.flatMap_cons, ← List.append_assoc, ← List.append_assoc] at ha
    have hlen := congrArg List.length ha
    simp only [List.length_append, List.length_cons, List.length_nil] at hlen
    refine Ev.step (fun k => by rw [laws_FnWords.l0]) ?_
    rw [rdOf_map ws i hlt, toB_append, show (⟨#[32]⟩ : ByteArray) = toB [32] from rfl, toB_append, toB_size, toB_size, toB_size, List.length_map, w64 (by omega) (by omega), show ((i : Int) + 1) = ((i + 1 : Nat) : Int) by omega]
    refine ev_pos (by omega) (ev_pos (by omega) (ev_pos (by omega) (ev_pos (by rw [List.length_append]; omega) ?_)))
    exact ih (i + 1) _ (by omega) ha
theorem laws_FnWords_l1 (x3 x5 x7 : ByteArray) (x4 : List ByteArray) (ls : List (List UInt8)) (full : List UInt8) (hf : full.length ≤ 1000) (hw : ls.length ≤ 1000)
    (he : Ev (fun k => (impl_Words.f k x5).bind fun t224 => ((laws_sameTexts.f k t224 x4).bind fun t227 => (if t227 = true then ((spec_Words.f k x3).bind fun t228 => ((laws_sameTexts.f k x4 t228).bind fun t231 => (if t231 = true then (if (toB full).toList = x7.toList then (some true) else (if x7.size + 1 ≤ 9223372036854775807 then (if (toB full).toList = (x7 ++ (⟨#[10]⟩ : ByteArray)).toList then (some (x7.toList != ([] : List UInt8))) else (some false)) else (none))) else (some false)))) else (some false)))) true) (d : Nat) :
    ∀ (i : Nat) (acc : List UInt8), i + d = ls.length → acc ++ joinNl (ls.drop i) = full → Ev (fun k => laws_FnWords.l1 k x3 x4 x5 x7 (ls.map toB) (toB acc) (i : Int)) true := by
  induction d with
  | zero =>
    intro i acc hi ha
    rw [List.drop_of_length_le (by omega), joinNl, List.flatMap_nil, List.append_nil] at ha
    subst ha
    exact Ev.step (fun k => by rw [laws_FnWords.l1]) (ev_neg (by rw [List.length_map]; omega) he)
  | succ d ih =>
    intro i acc hi ha
    have hlt : i < ls.length := by omega
    rw [List.drop_eq_getElem_cons hlt, joinNl, List.flatMap_cons, ← List.append_assoc, ← List.append_assoc] at ha
    have hlen := congrArg List.length ha
    simp only [List.length_append, List.length_cons, List.length_nil] at hlen
    refine Ev.step (fun k => by rw [laws_FnWords.l1]) ?_
    rw [rdOf_map ls i hlt, toB_append, show (⟨#[10]⟩ : ByteArray) = toB [10] from rfl, toB_append, toB_size, toB_size, toB_size, List.length_map, w64 (by omega) (by omega), show ((i : Int) + 1) = ((i + 1 : Nat) : Int) by omega]
    refine ev_pos (by omega) (ev_pos (by omega) (ev_pos (by omega) (ev_pos (by rw [List.length_append]; omega) ?_)))
    exact ih (i + 1) _ (by omega) ha
theorem FnWords : laws_FnWords.Pure := by
  intro l hl hz hw
  refine Ev.rounds (r := true) ?_
  refine ev_bind (ev_eq (laws_big_eq l)) ?_
  by_cases hs : (l.length : Int) > 1048576
  · exact ev_pos (decide_eq_true hs) (ev_ret rfl)
  refine ev_neg (by simpa using hs) ?_
  obtain ⟨s, es, h14⟩ := spec_DrawWords_ev l (by omega)
  obtain ⟨t, et, t14⟩ := spec_DrawLines_ev l (by omega)
  have hok := spotsC_ok s none 0 (fun _ e => by cases e)
  have hlen := spotsC_len s none 0
  have hcnt := spotsOf_length s
  have e1 := impl_Words_ev (toB s) (by rw [toB_size]; omega)
  have e2 := spec_Words_ev (toB s) (by rw [toB_size]; omega)
  rw [toB_data, show ((spotsOf s).map fun c => toB c.1) = ((spotsOf s).map (·.1)).map toB by rw [List.map_map]; rfl] at e1 e2
  have hok' : ∀ w ∈ (spotsOf s).map (·.1), wordOk w := by
    intro w hw'
    obtain ⟨c, hc, rfl⟩ := List.mem_map.1 hw'
    exact hok c hc
  have hlen' : (joinSp ((spotsOf s).map (·.1))).length ≤ 28 := by
    have : (joinSp ((spotsOf s).map (·.1))).length ≤ 2 * s.length + 0 := hlen
    omega
  have hcnt' : ((spotsOf s).map (·.1)).length ≤ 14 := by rw [List.length_map]; omega
  generalize (spotsOf s).map (·.1) = ws at e1 e2 hok' hlen' hcnt'
  have e3 := impl_Words_ev (toB (joinSp ws)) (by rw [toB_size]; omega)
  rw [toB_data, show ((spotsOf (joinSp ws)).map fun c => toB c.1) = ((spotsOf (joinSp ws)).map (·.1)).map toB by rw [List.map_map]; rfl, show (spotsOf (joinSp ws)).map (·.1) = ws from words_join ws hok' 0] at e3
  have hsame := laws_sameTexts_ev (ws.map toB) (by rw [List.length_map]; omega)
  have el := impl_Lines_ev t (by omega)
  have hll := linesOf_length t
  have hj : joinNl (linesOf t) = t ∨ (joinNl (linesOf t) = t ++ [10] ∧ t ≠ []) := lines_join t []
  have hjl := joinNl_length _ _ hj
  generalize linesOf t = ls at el hll hj hjl
  refine ev_bind es (ev_bind e1 ?_)
  refine laws_FnWords_l0 l (toB s) ws (joinSp ws) (by omega) (by omega) ?_ ws.length 0 [] (by omega) rfl
  refine ev_bind et (ev_bind el ?_)
  refine laws_FnWords_l1 (toB s) (toB (joinSp ws)) (toB t) (ws.map toB) ls (joinNl ls) (by omega) (by omega) ?_ ls.length 0 [] (by omega) rfl
  refine ev_bind e3 (ev_bind hsame (ev_pos rfl (ev_bind e2 (ev_bind hsame (ev_pos rfl ?_)))))
  rcases hj with e | ⟨e, hne⟩
  · rw [e]; exact ev_pos rfl (ev_ret rfl)
  · rw [e]
    refine ev_ite (fun _ => ev_ret rfl) (fun _ => ev_pos (by rw [toB_size]; omega) (ev_pos ?_ (ev_ret ?_)))
    · rw [show (⟨#[10]⟩ : ByteArray) = toB [10] from rfl, toB_append]
    · rw [bne_iff_ne]
      intro h
      apply hne
      rw [ba_toList, toB_data] at h
      exact h

end Go.Proofs.YtamdgigcngeanaaDoor.Pure
