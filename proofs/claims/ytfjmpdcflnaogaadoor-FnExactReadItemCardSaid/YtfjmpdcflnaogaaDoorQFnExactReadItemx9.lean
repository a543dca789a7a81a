/-
Plain functions for the Go functions that a law reaches, each with a proof that the translation's call comes to just that; no conditions beyond those written in each.
-/
import Derived.Test.YtfjmpdcflnaogaaDoorQFnExactReadItemx0
import Derived.Test.YtfjmpdcflnaogaaDoorQFnExactReadItemx5
import Derived.Test.YtfjmpdcflnaogaaDoorQFnExactReadItemx7
import Derived.Test.YtfjmpdcflnaogaaDoorQFnExactReadItemx8
namespace Go.Proofs.YtfjmpdcflnaogaaDoor.QFnExactReadItem
open Go.RowKit Go.Proofs.YtfjmpdcflnaogaaDoorW.PrintWords Go.Proofs.YtfjmpdcflnaogaaDoorW.PrintLast Go.Proofs.YtfjmpdcflnaogaaDoorW.PrintMore
attribute [local go_sem] max2_int min2_int max_two min_two max_three min_three max_four min_four   -- for this text's walks alone
set_option linter.unusedVariables false
set_option linter.unusedSimpArgs false

/-! ### spec_ItemText: function 8 -/
def spec_ItemText.j0 : Nat → ByteArray → Int → Bool → Int → ByteArray → Int → Bool → Int → Option (ByteArray)
  | 0, _, _, _, _, _, _, _, _ => none
  | k + 1, x3, x11, x12, x323000, x323001, x323002, x323003, x323004 => if x12 = true then (if x323003 = true then (if x3.size + 1 ≤ 9223372036854775807 then ((spec_HexText.f k ((x323002) % 4294967296)).bind fun t325 => (if (x3 ++ (⟨#[36]⟩ : ByteArray)).size + t325.size ≤ 9223372036854775807 then (some ((x3 ++ (⟨#[36]⟩ : ByteArray)) ++ t325)) else (none))) else (none)) else (if x3.size + 1 ≤ 9223372036854775807 then ((spec_DecText.f k (wrap64 (x323002))).bind fun t326 => (if (x3 ++ (⟨#[35]⟩ : ByteArray)).size + t326.size ≤ 9223372036854775807 then (some ((x3 ++ (⟨#[35]⟩ : ByteArray)) ++ t326)) else (none))) else (none))) else (if x11 = 9 then (if x3.size + x323001.size ≤ 9223372036854775807 then (if (x3 ++ x323001).size + 1 ≤ 9223372036854775807 then ((spec_DecText.f k (wrap64 (x323002))).bind fun t327 => (if ((x3 ++ x323001) ++ (⟨#[35]⟩ : ByteArray)).size + t327.size ≤ 9223372036854775807 then (some (((x3 ++ x323001) ++ (⟨#[35]⟩ : ByteArray)) ++ t327)) else (none))) else (none)) else (none)) else (if x11 = 0 then ((spec_HexText.f k x323004).bind fun t328 => (if x3.size + t328.size ≤ 9223372036854775807 then (some (x3 ++ t328)) else (none))) else (if x3.size + x323001.size ≤ 9223372036854775807 then (some (x3 ++ x323001)) else (none))))
def spec_ItemText.f (k : Nat) (a0_0 : Int) (a0_1 : ByteArray) (a0_2 : Int) (a0_3 : Bool) (a0_4 : Int) : Option (ByteArray) := (spec_ItemOk.f k a0_0 a0_1 a0_2 a0_3 a0_4).bind fun t323 => (if t323 = true then ((spec_l06Mark.f k a0_0).bind fun t324 => (if a0_0 = 7 then (spec_ItemText.j0 k t324 a0_0 (a0_0 == 7) a0_0 a0_1 a0_2 a0_3 a0_4) else (spec_ItemText.j0 k t324 a0_0 (a0_0 == 8) a0_0 a0_1 a0_2 a0_3 a0_4))) else (some (⟨#[]⟩ : ByteArray)))
theorem spec_ItemText.mono_l : ∀ k, (∀ y0 y1 y2 y3 y4 y5 y6 y7, LeO (spec_ItemText.j0 k y0 y1 y2 y3 y4 y5 y6 y7) (spec_ItemText.j0 (k + 1) y0 y1 y2 y3 y4 y5 y6 y7))
  | 0 => fun _ _ _ _ _ _ _ _ r h => by simp [spec_ItemText.j0] at h
  | k + 1 => by
    have ih0 := spec_ItemText.mono_l k
    · intro y0 y1 y2 y3 y4 y5 y6 y7
      unfold spec_ItemText.j0
      repeat' first
      | (with_reducible exact ih0 _ _ _ _ _ _ _ _)
      | (with_reducible exact spec_DecText.mono _ _)
      | (with_reducible exact spec_HexText.mono _ _)
      | (with_reducible exact spec_ItemOk.mono _ _ _ _ _ _)
      | (with_reducible exact spec_l06Mark.mono _ _)
      | (with_reducible exact LeO.refl _)
      | (with_reducible exact LeO.none _)
      | (with_reducible refine LeO.ite ?_ ?_)
      | (with_reducible refine LeO.bind ?_ (fun _ => ?_))
      | exact ih0 _ _ _ _ _ _ _ _
      | exact spec_DecText.mono _ _
      | exact spec_HexText.mono _ _
      | exact spec_ItemOk.mono _ _ _ _ _ _
      | exact spec_l06Mark.mono _ _
      | exact LeO.none _
      | refine LeO.ite ?_ ?_
      | refine LeO.bind ?_ (fun _ => ?_)
theorem spec_ItemText.mono : ∀ a0 a1 a2 a3 a4 k, LeO (spec_ItemText.f k a0 a1 a2 a3 a4) (spec_ItemText.f (k + 1) a0 a1 a2 a3 a4) := by
  intro a0 a1 a2 a3 a4 k
  have ih0 := spec_ItemText.mono_l k
  unfold spec_ItemText.f
  repeat' first
      | (with_reducible exact ih0 _ _ _ _ _ _ _ _)
      | (with_reducible exact spec_DecText.mono _ _)
      | (with_reducible exact spec_HexText.mono _ _)
      | (with_reducible exact spec_ItemOk.mono _ _ _ _ _ _)
      | (with_reducible exact spec_l06Mark.mono _ _)
      | (with_reducible exact LeO.refl _)
      | (with_reducible exact LeO.none _)
      | (with_reducible refine LeO.ite ?_ ?_)
      | (with_reducible refine LeO.bind ?_ (fun _ => ?_))
      | exact ih0 _ _ _ _ _ _ _ _
      | exact spec_DecText.mono _ _
      | exact spec_HexText.mono _ _
      | exact spec_ItemOk.mono _ _ _ _ _ _
      | exact spec_l06Mark.mono _ _
      | exact LeO.none _
      | refine LeO.ite ?_ ?_
      | refine LeO.bind ?_ (fun _ => ?_)
set_option maxHeartbeats 8000000 in
set_option maxRecDepth 100000 in
theorem spec_ItemText.calls (k : Nat) (a0_0 : Int) (a0_1 : ByteArray) (a0_2 : Int) (a0_3 : Bool) (a0_4 : Int) (r : ByteArray) (w : World) (h : spec_ItemText.f k a0_0 a0_1 a0_2 a0_3 a0_4 = some r) :
    Calls Tryd.prog 8 #[.agg #[.int .i64 a0_0, .string a0_1, .int .i32 a0_2, .bool a0_3, .int .u32 a0_4]] w fun e w' => e = .returned (.string r) ∧ Below w.heap.size w w' := by
  have hu27 := Tryd.underlying27
  have HB := Aside0.mk (Below.refl w.heap.size w)
  have H : ((spec_ItemOk.f k a0_0 a0_1 a0_2 a0_3 a0_4).bind fun t323 => (if t323 = true then ((spec_l06Mark.f k a0_0).bind fun t324 => (if a0_0 = 7 then (spec_ItemText.j0 k t324 a0_0 (a0_0 == 7) a0_0 a0_1 a0_2 a0_3 a0_4) else (spec_ItemText.j0 k t324 a0_0 (a0_0 == 8) a0_0 a0_1 a0_2 a0_3 a0_4))) else (some (⟨#[]⟩ : ByteArray)))) = some r := h
  clear h
  replace H := Option.bind_eq_some_iff.mp H
  obtain ⟨t323, A20, H⟩ := H
  replace H : (if t323 = true then ((spec_l06Mark.f k a0_0).bind fun t324 => (if a0_0 = 7 then (spec_ItemText.j0 k t324 a0_0 (a0_0 == 7) a0_0 a0_1 a0_2 a0_3 a0_4) else (spec_ItemText.j0 k t324 a0_0 (a0_0 == 8) a0_0 a0_1 a0_2 a0_3 a0_4))) else (some (⟨#[]⟩ : ByteArray))) = some r := H
  have A2 := Aside0.mk A20
  clear A20
  by_cases c3 : t323 = true
  · subst c3
    have H1 : ((spec_l06Mark.f k a0_0).bind fun t324 => (if a0_0 = 7 then (spec_ItemText.j0 k t324 a0_0 (a0_0 == 7) a0_0 a0_1 a0_2 a0_3 a0_4) else (spec_ItemText.j0 k t324 a0_0 (a0_0 == 8) a0_0 a0_1 a0_2 a0_3 a0_4))) = some r := by rw [if_pos rfl] at H; exact H
    clear H
    have H := H1
    clear H1
    replace H := Option.bind_eq_some_iff.mp H
    obtain ⟨t324, A40, H⟩ := H
    replace H : (if a0_0 = 7 then (spec_ItemText.j0 k t324 a0_0 (a0_0 == 7) a0_0 a0_1 a0_2 a0_3 a0_4) else (spec_ItemText.j0 k t324 a0_0 (a0_0 == 8) a0_0 a0_1 a0_2 a0_3 a0_4)) = some r := H
    have A4 := Aside0.mk A40
    clear A40
    have HC5 := Aside0.mk H
    clear H
    go_enter Tryd.func8, Tryd.ntmps8
    go_upto_if 12 with (first | ((with_reducible refine gate_dst (N := 1) rfl ?_); refine box_event ?hg (N := 1) ?hd (cs := #[.int .i64 a0_0, .string a0_1, .int .i32 a0_2, .bool a0_3, .int .u32 a0_4]) (t := 27) ?hr ?_; (case hd => rfl); (case hg => rfl); (case hr => first | (go_simp; done) | (go_simp; rfl)); intro gb322 hg w6 hbox hb; have n0_ := Aside0.mk (below_step (by repeat (first | (with_reducible first | exact HB.out | apply below_alloc | apply pw_below_drewN | apply below_drew1) | exact HB.out)) hb); have n1_ := Aside0.mk (hbox); have n2_ := Aside0.mk ((by rw [hg]; exact (below_size (by repeat (first | (with_reducible first | exact HB.out | apply below_alloc | apply pw_below_drewN | apply below_drew1) | exact HB.out))) : w.heap.size ≤ gb322)); have n3_ := Aside0.mk ((by rw [hg]; exact (below_size (by repeat (first | (with_reducible first | exact HB.out | apply below_alloc | apply pw_below_drewN | apply below_drew1) | exact HB.out))) : w.heap.size ≤ gb322)); clear HB; have HB := n0_; have BK322 := n1_; have GW322 := n2_; have GE322 := n3_; clear n0_ n1_ n2_ n3_; clear hb hbox hg; have hcz7_0 : w6.cell? ⟨gb322, 0, none⟩ = some (.int .i64 a0_0) := (blk_cell BK322.out 0).trans rfl; have hcz7_1 : w6.cell? ⟨gb322, 1, none⟩ = some (.string a0_1) := (blk_cell BK322.out 1).trans rfl; have hcz7_2 : w6.cell? ⟨gb322, 2, none⟩ = some (.int .i32 a0_2) := (blk_cell BK322.out 2).trans rfl; have hcz7_3 : w6.cell? ⟨gb322, 3, none⟩ = some (.bool a0_3) := (blk_cell BK322.out 3).trans rfl; have hcz7_4 : w6.cell? ⟨gb322, 4, none⟩ = some (.int .u32 a0_4) := (blk_cell BK322.out 4).trans rfl; have hfz7_0 := blk_frozen BK322.out 0; have hfz7_1 := blk_frozen BK322.out 1; have hfz7_2 := blk_frozen BK322.out 2; have hfz7_3 := blk_frozen BK322.out 3; have hfz7_4 := blk_frozen BK322.out 4) | (go_at_call 18; (with_reducible refine (spec_ItemOk.calls k a0_0 a0_1 a0_2 a0_3 a0_4 true _ A2.out).mono ?_); rintro e w8 ⟨rfl, hb⟩; have n0_ := Aside0.mk (blk_below (g := gb322) (o := .cells #[.int .i64 a0_0, .string a0_1, .int .i32 a0_2, .bool a0_3, .int .u32 a0_4] 27 (0, 0)) (by (with_reducible repeat (first | refine blk_drewN ?_ _ | refine blk_drew ?_ | refine blk_alloc ?_ _)); exact BK322.out) hb); have n1_ := Aside0.mk (below_step (by repeat (first | (with_reducible first | exact HB.out | apply below_alloc | apply pw_below_drewN | apply below_drew1 | refine below_set ?_ GE322.out) | exact HB.out)) hb); clear BK322; clear HB; have BK322 := n0_; have HB := n1_; clear n0_ n1_; (try clear hb); (try clear hb2); (try clear hk); (try clear hi); have hcz9_0 : w8.cell? ⟨gb322, 0, none⟩ = some (.int .i64 a0_0) := (blk_cell BK322.out 0).trans rfl; have hcz9_1 : w8.cell? ⟨gb322, 1, none⟩ = some (.string a0_1) := (blk_cell BK322.out 1).trans rfl; have hcz9_2 : w8.cell? ⟨gb322, 2, none⟩ = some (.int .i32 a0_2) := (blk_cell BK322.out 2).trans rfl; have hcz9_3 : w8.cell? ⟨gb322, 3, none⟩ = some (.bool a0_3) := (blk_cell BK322.out 3).trans rfl; have hcz9_4 : w8.cell? ⟨gb322, 4, none⟩ = some (.int .u32 a0_4) := (blk_cell BK322.out 4).trans rfl; have hfz9_0 := blk_frozen BK322.out 0; have hfz9_1 := blk_frozen BK322.out 1; have hfz9_2 := blk_frozen BK322.out 2; have hfz9_3 := blk_frozen BK322.out 3; have hfz9_4 := blk_frozen BK322.out 4) | (go_at_call 21; (with_reducible refine (spec_l06Mark.calls k a0_0 t324 _ A4.out).mono ?_); rintro e w' ⟨rfl, ⟨nd, rfl⟩⟩; (try first | exact ⟨rfl, _, World.drewN_drewN _ _ _⟩ | exact ⟨rfl, _, Eq.trans (World.drewN_drewN _ _ _) (congrArg (World.drewN _) (Nat.add_assoc _ _ _))⟩)))
    repeat (go_quiet (first | ((with_reducible refine gate_dst (N := 1) rfl ?_); refine box_event ?hg (N := 1) ?hd (cs := #[.int .i64 a0_0, .string a0_1, .int .i32 a0_2, .bool a0_3, .int .u32 a0_4]) (t := 27) ?hr ?_; (case hd => rfl); (case hg => rfl); (case hr => first | (go_simp; done) | (go_simp; rfl)); intro gb322 hg w6 hbox hb; have n0_ := Aside0.mk (below_step (by repeat (first | (with_reducible first | exact HB.out | apply below_alloc | apply pw_below_drewN | apply below_drew1) | exact HB.out)) hb); have n1_ := Aside0.mk (hbox); have n2_ := Aside0.mk ((by rw [hg]; exact (below_size (by repeat (first | (with_reducible first | exact HB.out | apply below_alloc | apply pw_below_drewN | apply below_drew1) | exact HB.out))) : w.heap.size ≤ gb322)); have n3_ := Aside0.mk ((by rw [hg]; exact (below_size (by repeat (first | (with_reducible first | exact HB.out | apply below_alloc | apply pw_below_drewN | apply below_drew1) | exact HB.out))) : w.heap.size ≤ gb322)); clear HB; have HB := n0_; have BK322 := n1_; have GW322 := n2_; have GE322 := n3_; clear n0_ n1_ n2_ n3_; clear hb hbox hg; have hcz7_0 : w6.cell? ⟨gb322, 0, none⟩ = some (.int .i64 a0_0) := (blk_cell BK322.out 0).trans rfl; have hcz7_1 : w6.cell? ⟨gb322, 1, none⟩ = some (.string a0_1) := (blk_cell BK322.out 1).trans rfl; have hcz7_2 : w6.cell? ⟨gb322, 2, none⟩ = some (.int .i32 a0_2) := (blk_cell BK322.out 2).trans rfl; have hcz7_3 : w6.cell? ⟨gb322, 3, none⟩ = some (.bool a0_3) := (blk_cell BK322.out 3).trans rfl; have hcz7_4 : w6.cell? ⟨gb322, 4, none⟩ = some (.int .u32 a0_4) := (blk_cell BK322.out 4).trans rfl; have hfz7_0 := blk_frozen BK322.out 0; have hfz7_1 := blk_frozen BK322.out 1; have hfz7_2 := blk_frozen BK322.out 2; have hfz7_3 := blk_frozen BK322.out 3; have hfz7_4 := blk_frozen BK322.out 4) | (go_at_call 18; (with_reducible refine (spec_ItemOk.calls k a0_0 a0_1 a0_2 a0_3 a0_4 true _ A2.out).mono ?_); rintro e w8 ⟨rfl, hb⟩; have n0_ := Aside0.mk (blk_below (g := gb322) (o := .cells #[.int .i64 a0_0, .string a0_1, .int .i32 a0_2, .bool a0_3, .int .u32 a0_4] 27 (0, 0)) (by (with_reducible repeat (first | refine blk_drewN ?_ _ | refine blk_drew ?_ | refine blk_alloc ?_ _)); exact BK322.out) hb); have n1_ := Aside0.mk (below_step (by repeat (first | (with_reducible first | exact HB.out | apply below_alloc | apply pw_below_drewN | apply below_drew1 | refine below_set ?_ GE322.out) | exact HB.out)) hb); clear BK322; clear HB; have BK322 := n0_; have HB := n1_; clear n0_ n1_; (try clear hb); (try clear hb2); (try clear hk); (try clear hi); have hcz9_0 : w8.cell? ⟨gb322, 0, none⟩ = some (.int .i64 a0_0) := (blk_cell BK322.out 0).trans rfl; have hcz9_1 : w8.cell? ⟨gb322, 1, none⟩ = some (.string a0_1) := (blk_cell BK322.out 1).trans rfl; have hcz9_2 : w8.cell? ⟨gb322, 2, none⟩ = some (.int .i32 a0_2) := (blk_cell BK322.out 2).trans rfl; have hcz9_3 : w8.cell? ⟨gb322, 3, none⟩ = some (.bool a0_3) := (blk_cell BK322.out 3).trans rfl; have hcz9_4 : w8.cell? ⟨gb322, 4, none⟩ = some (.int .u32 a0_4) := (blk_cell BK322.out 4).trans rfl; have hfz9_0 := blk_frozen BK322.out 0; have hfz9_1 := blk_frozen BK322.out 1; have hfz9_2 := blk_frozen BK322.out 2; have hfz9_3 := blk_frozen BK322.out 3; have hfz9_4 := blk_frozen BK322.out 4) | (go_at_call 21; (with_reducible refine (spec_l06Mark.calls k a0_0 t324 _ A4.out).mono ?_); rintro e w' ⟨rfl, ⟨nd, rfl⟩⟩; (try first | exact ⟨rfl, _, World.drewN_drewN _ _ _⟩ | exact ⟨rfl, _, Eq.trans (World.drewN_drewN _ _ _) (congrArg (World.drewN _) (Nat.add_assoc _ _ _))⟩))); go_upto_if 12 with (first | ((with_reducible refine gate_dst (N := 1) rfl ?_); refine box_event ?hg (N := 1) ?hd (cs := #[.int .i64 a0_0, .string a0_1, .int .i32 a0_2, .bool a0_3, .int .u32 a0_4]) (t := 27) ?hr ?_; (case hd => rfl); (case hg => rfl); (case hr => first | (go_simp; done) | (go_simp; rfl)); intro gb322 hg w6 hbox hb; have n0_ := Aside0.mk (below_step (by repeat (first | (with_reducible first | exact HB.out | apply below_alloc | apply pw_below_drewN | apply below_drew1) | exact HB.out)) hb); have n1_ := Aside0.mk (hbox); have n2_ := Aside0.mk ((by rw [hg]; exact (below_size (by repeat (first | (with_reducible first | exact HB.out | apply below_alloc | apply pw_below_drewN | apply below_drew1) | exact HB.out))) : w.heap.size ≤ gb322)); have n3_ := Aside0.mk ((by rw [hg]; exact (below_size (by repeat (first | (with_reducible first | exact HB.out | apply below_alloc | apply pw_below_drewN | apply below_drew1) | exact HB.out))) : w.heap.size ≤ gb322)); clear HB; have HB := n0_; have BK322 := n1_; have GW322 := n2_; have GE322 := n3_; clear n0_ n1_ n2_ n3_; clear hb hbox hg; have hcz7_0 : w6.cell? ⟨gb322, 0, none⟩ = some (.int .i64 a0_0) := (blk_cell BK322.out 0).trans rfl; have hcz7_1 : w6.cell? ⟨gb322, 1, none⟩ = some (.string a0_1) := (blk_cell BK322.out 1).trans rfl; have hcz7_2 : w6.cell? ⟨gb322, 2, none⟩ = some (.int .i32 a0_2) := (blk_cell BK322.out 2).trans rfl; have hcz7_3 : w6.cell? ⟨gb322, 3, none⟩ = some (.bool a0_3) := (blk_cell BK322.out 3).trans rfl; have hcz7_4 : w6.cell? ⟨gb322, 4, none⟩ = some (.int .u32 a0_4) := (blk_cell BK322.out 4).trans rfl; have hfz7_0 := blk_frozen BK322.out 0; have hfz7_1 := blk_frozen BK322.out 1; have hfz7_2 := blk_frozen BK322.out 2; have hfz7_3 := blk_frozen BK322.out 3; have hfz7_4 := blk_frozen BK322.out 4) | (go_at_call 18; (with_reducible refine (spec_ItemOk.calls k a0_0 a0_1 a0_2 a0_3 a0_4 true _ A2.out).mono ?_); rintro e w8 ⟨rfl, hb⟩; have n0_ := Aside0.mk (blk_below (g := gb322) (o := .cells #[.int .i64 a0_0, .string a0_1, .int .i32 a0_2, .bool a0_3, .int .u32 a0_4] 27 (0, 0)) (by (with_reducible repeat (first | refine blk_drewN ?_ _ | refine blk_drew ?_ | refine blk_alloc ?_ _)); exact BK322.out) hb); have n1_ := Aside0.mk (below_step (by repeat (first | (with_reducible first | exact HB.out | apply below_alloc | apply pw_below_drewN | apply below_drew1 | refine below_set ?_ GE322.out) | exact HB.out)) hb); clear BK322; clear HB; have BK322 := n0_; have HB := n1_; clear n0_ n1_; (try clear hb); (try clear hb2); (try clear hk); (try clear hi); have hcz9_0 : w8.cell? ⟨gb322, 0, none⟩ = some (.int .i64 a0_0) := (blk_cell BK322.out 0).trans rfl; have hcz9_1 : w8.cell? ⟨gb322, 1, none⟩ = some (.string a0_1) := (blk_cell BK322.out 1).trans rfl; have hcz9_2 : w8.cell? ⟨gb322, 2, none⟩ = some (.int .i32 a0_2) := (blk_cell BK322.out 2).trans rfl; have hcz9_3 : w8.cell? ⟨gb322, 3, none⟩ = some (.bool a0_3) := (blk_cell BK322.out 3).trans rfl; have hcz9_4 : w8.cell? ⟨gb322, 4, none⟩ = some (.int .u32 a0_4) := (blk_cell BK322.out 4).trans rfl; have hfz9_0 := blk_frozen BK322.out 0; have hfz9_1 := blk_frozen BK322.out 1; have hfz9_2 := blk_frozen BK322.out 2; have hfz9_3 := blk_frozen BK322.out 3; have hfz9_4 := blk_frozen BK322.out 4) | (go_at_call 21; (with_reducible refine (spec_l06Mark.calls k a0_0 t324 _ A4.out).mono ?_); rintro e w' ⟨rfl, ⟨nd, rfl⟩⟩; (try first | exact ⟨rfl, _, World.drewN_drewN _ _ _⟩ | exact ⟨rfl, _, Eq.trans (World.drewN_drewN _ _ _) (congrArg (World.drewN _) (Nat.add_assoc _ _ _))⟩))))
    (try simp only [Act.put, List.setIfInBounds_toArray, List.set_cons_zero, List.set_cons_succ])
    go_cut [12] (fun v12 wc => ∃ (kq : Nat) (x12_4 : Bool), v12 = .bool x12_4 ∧ Aside0 (spec_ItemText.j0 kq t324 a0_0 x12_4 a0_0 a0_1 a0_2 a0_3 a0_4 = some r) ∧ Aside0 (kq ≤ k) ∧ Aside0 (wc.heap[gb322]? = some (.cells #[.int .i64 a0_0, .string a0_1, .int .i32 a0_2, .bool a0_3, .int .u32 a0_4] 27 (0, 0))) ∧ Aside0 (Below w.heap.size w wc))
    case first =>
      have H := HC5.out
      clear HC5
      by_cases c10 : a0_0 = 7
      · rw [if_pos c10] at H
        have c10b0 : (a0_0 == 7) = true := beq_iff_eq.mpr c10
        have c10b1 : (a0_0 != 7) = false := bne_eq_false_iff_eq.mpr c10
        clear c10
        (first | rw [c10b0] | (simp only [i64_w, i32_w]; rw [c10b0]) | skip)
        have H' := Aside0.mk H
        clear H
        go_wp2
        repeat (go_quiet (fail); try go_wp2)
        go_meet
        case rel => exact ⟨_, ((a0_0 == 7)), (by first | rfl | (simp; done) | (simp [*]; done) | (simp [bne]; done)), H', ⟨by first | omega | exact Nat.le_refl _⟩, ⟨by (with_reducible repeat (first | refine blk_drewN ?_ _ | refine blk_drew ?_ | refine blk_alloc ?_ _)); exact BK322.out⟩, ⟨by repeat (first | (with_reducible first | exact HB.out | apply below_alloc | apply pw_below_drewN | apply below_drew1 | refine below_set ?_ GE322.out) | exact HB.out)⟩⟩
      · rw [if_neg c10] at H
        have c10b0 : (a0_0 == 7) = false := beq_eq_false_iff_ne.mpr c10
        have c10b1 : (a0_0 != 7) = true := bne_iff_ne.mpr c10
        (first | rw [c10b0] | (simp only [i64_w, i32_w]; rw [c10b0]) | skip)
        have H' := Aside0.mk H
        clear H
        go_wp2
        repeat (go_quiet (fail); try go_wp2)
        go_meet
        case rel => exact ⟨_, ((a0_0 == 8)), (by first | rfl | (simp; done) | (simp [*]; done) | (simp [bne]; done)), H', ⟨by first | omega | exact Nat.le_refl _⟩, ⟨by (with_reducible repeat (first | refine blk_drewN ?_ _ | refine blk_drew ?_ | refine blk_alloc ?_ _)); exact BK322.out⟩, ⟨by repeat (first | (with_reducible first | exact HB.out | apply below_alloc | apply pw_below_drewN | apply below_drew1 | refine below_set ?_ GE322.out) | exact HB.out)⟩⟩
    case rest =>
      clear HC5
      try clear c1
      try clear p2
      try clear c3
      try clear c8
      try clear c10
      try clear c10b0
      try clear c10b1
      try clear hcz7_0
      try clear hcz7_1
      try clear hcz7_2
      try clear hcz7_3
      try clear hcz7_4
      try clear hcz9_0
      try clear hcz9_1
      try clear hcz9_2
      try clear hcz9_3
      try clear hcz9_4
      try clear hfz7_0
      try clear hfz7_1
      try clear hfz7_2
      try clear hfz7_3
      try clear hfz7_4
      try clear hfz9_0
      try clear hfz9_1
      try clear hfz9_2
      try clear hfz9_3
      try clear hfz9_4
      obtain ⟨kq, x12_4, rfl, HA, HJ4, BK322, HB⟩ := hcut
      cases kq with
      | zero => exact absurd HA.out (by simp [spec_ItemText.j0])
      | succ kj4 =>
        have H := HA.out
        clear HA
        simp only [spec_ItemText.j0] at H
        by_cases c11 : x12_4 = true
        · subst c11
          have H1 : (if a0_3 = true then (if t324.size + 1 ≤ 9223372036854775807 then ((spec_HexText.f kj4 ((a0_2) % 4294967296)).bind fun t325 => (if (t324 ++ (⟨#[36]⟩ : ByteArray)).size + t325.size ≤ 9223372036854775807 then (some ((t324 ++ (⟨#[36]⟩ : ByteArray)) ++ t325)) else (none))) else (none)) else (if t324.size + 1 ≤ 9223372036854775807 then ((spec_DecText.f kj4 (wrap64 (a0_2))).bind fun t326 => (if (t324 ++ (⟨#[35]⟩ : ByteArray)).size + t326.size ≤ 9223372036854775807 then (some ((t324 ++ (⟨#[35]⟩ : ByteArray)) ++ t326)) else (none))) else (none))) = some r := by rw [if_pos rfl] at H; exact H
          clear H
          have H := H1
          clear H1
          by_cases c12 : a0_3 = true
          · subst c12
            have H1 : (if t324.size + 1 ≤ 9223372036854775807 then ((spec_HexText.f kj4 ((a0_2) % 4294967296)).bind fun t325 => (if (t324 ++ (⟨#[36]⟩ : ByteArray)).size + t325.size ≤ 9223372036854775807 then (some ((t324 ++ (⟨#[36]⟩ : ByteArray)) ++ t325)) else (none))) else (none)) = some r := by rw [if_pos rfl] at H; exact H
            clear H
            have H := H1
            clear H1
            by_cases c13 : t324.size + 1 ≤ 9223372036854775807
            · rw [if_pos c13] at H
              have c13b0 := eq_true c13
              have c13b1 : decide (t324.size + 1 ≤ 9223372036854775807) = true := decide_eq_true c13
              try have c13b2 : (9223372036854775807 < t324.size + 1) = False := eq_false (Nat.not_lt.2 c13)
              replace H := Option.bind_eq_some_iff.mp H
              obtain ⟨t325, A140, H⟩ := H
              replace H : (if (t324 ++ (⟨#[36]⟩ : ByteArray)).size + t325.size ≤ 9223372036854775807 then (some ((t324 ++ (⟨#[36]⟩ : ByteArray)) ++ t325)) else (none)) = some r := H
              have A14 := Aside0.mk A140
              clear A140
              by_cases c15 : (t324 ++ (⟨#[36]⟩ : ByteArray)).size + t325.size ≤ 9223372036854775807
              · rw [if_pos c15] at H
                have c15b0 := eq_true c15
                have c15b1 : decide ((t324 ++ (⟨#[36]⟩ : ByteArray)).size + t325.size ≤ 9223372036854775807) = true := decide_eq_true c15
                try have c15b2 : (9223372036854775807 < (t324 ++ (⟨#[36]⟩ : ByteArray)).size + t325.size) = False := eq_false (Nat.not_lt.2 c15)
                try (have c15b3 := c15; simp only [ByteArray.size_append] at c15b3; replace c15b3 := eq_true c15b3)
                try (have c15b4 := c15b2; simp only [ByteArray.size_append] at c15b4; (try rw [show (⟨#[36]⟩ : ByteArray).size = 1 from rfl] at c15b4))
                obtain rfl := Option.some.inj H
                have hcz16_0 : wc.cell? ⟨gb322, 0, none⟩ = some (.int .i64 a0_0) := (blk_cell BK322.out 0).trans rfl
                have hcz16_1 : wc.cell? ⟨gb322, 1, none⟩ = some (.string a0_1) := (blk_cell BK322.out 1).trans rfl
                have hcz16_2 : wc.cell? ⟨gb322, 2, none⟩ = some (.int .i32 a0_2) := (blk_cell BK322.out 2).trans rfl
                have hcz16_3 : wc.cell? ⟨gb322, 3, none⟩ = some (.bool true) := (blk_cell BK322.out 3).trans rfl
                have hcz16_4 : wc.cell? ⟨gb322, 4, none⟩ = some (.int .u32 a0_4) := (blk_cell BK322.out 4).trans rfl
                have hfz16_0 := blk_frozen BK322.out 0
                have hfz16_1 := blk_frozen BK322.out 1
                have hfz16_2 := blk_frozen BK322.out 2
                have hfz16_3 := blk_frozen BK322.out 3
                have hfz16_4 := blk_frozen BK322.out 4
                go_wp2_with (first | (go_at_call 22; (with_reducible refine (spec_HexText.calls kj4 ((a0_2) % 4294967296) t325 _ A14.out).mono ?_); rintro e w' ⟨rfl, ⟨nd, rfl⟩⟩; (try first | exact ⟨rfl, _, World.drewN_drewN _ _ _⟩ | exact ⟨rfl, _, Eq.trans (World.drewN_drewN _ _ _) (congrArg (World.drewN _) (Nat.add_assoc _ _ _))⟩)))
                repeat (go_quiet (first | (go_at_call 22; (with_reducible refine (spec_HexText.calls kj4 ((a0_2) % 4294967296) t325 _ A14.out).mono ?_); rintro e w' ⟨rfl, ⟨nd, rfl⟩⟩; (try first | exact ⟨rfl, _, World.drewN_drewN _ _ _⟩ | exact ⟨rfl, _, Eq.trans (World.drewN_drewN _ _ _) (congrArg (World.drewN _) (Nat.add_assoc _ _ _))⟩))); try go_wp2_with (first | (go_at_call 22; (with_reducible refine (spec_HexText.calls kj4 ((a0_2) % 4294967296) t325 _ A14.out).mono ?_); rintro e w' ⟨rfl, ⟨nd, rfl⟩⟩; (try first | exact ⟨rfl, _, World.drewN_drewN _ _ _⟩ | exact ⟨rfl, _, Eq.trans (World.drewN_drewN _ _ _) (congrArg (World.drewN _) (Nat.add_assoc _ _ _))⟩))))
                go_ret
                exact ⟨by first | rfl | (rw [← show ∀ l_ : List UInt8, (!l_.isEmpty) = (l_ != []) from fun l_ => by cases l_ <;> rfl]; rfl) | (simp [errW_none, errW_some] <;> rfl) | (simp [*, errW_none, errW_some] <;> rfl), by repeat (first | (with_reducible first | exact HB.out | apply below_alloc | apply pw_below_drewN | apply below_drew1 | refine below_set ?_ GE322.out) | exact HB.out)⟩
              · rw [if_neg c15] at H
                exact absurd H (by simp)
            · rw [if_neg c13] at H
              exact absurd H (by simp)
          · replace c12 := Bool.eq_false_iff.mpr c12
            subst c12
            have H1 : (if t324.size + 1 ≤ 9223372036854775807 then ((spec_DecText.f kj4 (wrap64 (a0_2))).bind fun t326 => (if (t324 ++ (⟨#[35]⟩ : ByteArray)).size + t326.size ≤ 9223372036854775807 then (some ((t324 ++ (⟨#[35]⟩ : ByteArray)) ++ t326)) else (none))) else (none)) = some r := by rw [if_neg (show ¬ (false = true) by decide)] at H; exact H
            clear H
            have H := H1
            clear H1
            by_cases c17 : t324.size + 1 ≤ 9223372036854775807
            · rw [if_pos c17] at H
              have c17b0 := eq_true c17
              have c17b1 : decide (t324.size + 1 ≤ 9223372036854775807) = true := decide_eq_true c17
              try have c17b2 : (9223372036854775807 < t324.size + 1) = False := eq_false (Nat.not_lt.2 c17)
              replace H := Option.bind_eq_some_iff.mp H
              obtain ⟨t326, A180, H⟩ := H
              replace H : (if (t324 ++ (⟨#[35]⟩ : ByteArray)).size + t326.size ≤ 9223372036854775807 then (some ((t324 ++ (⟨#[35]⟩ : ByteArray)) ++ t326)) else (none)) = some r := H
              have A18 := Aside0.mk A180
              clear A180
              by_cases c19 : (t324 ++ (⟨#[35]⟩ : ByteArray)).size + t326.size ≤ 9223372036854775807
              · rw [if_pos c19] at H
                have c19b0 := eq_true c19
                have c19b1 : decide ((t324 ++ (⟨#[35]⟩ : ByteArray)).size + t326.size ≤ 9223372036854775807) = true := decide_eq_true c19
                try have c19b2 : (9223372036854775807 < (t324 ++ (⟨#[35]⟩ : ByteArray)).size + t326.size) = False := eq_false (Nat.not_lt.2 c19)
                try (have c19b3 := c19; simp only [ByteArray.size_append] at c19b3; replace c19b3 := eq_true c19b3)
                try (have c19b4 := c19b2; simp only [ByteArray.size_append] at c19b4; (try rw [show (⟨#[35]⟩ : ByteArray).size = 1 from rfl] at c19b4))
                obtain rfl := Option.some.inj H
                have hcz20_0 : wc.cell? ⟨gb322, 0, none⟩ = some (.int .i64 a0_0) := (blk_cell BK322.out 0).trans rfl
                have hcz20_1 : wc.cell? ⟨gb322, 1, none⟩ = some (.string a0_1) := (blk_cell BK322.out 1).trans rfl
                have hcz20_2 : wc.cell? ⟨gb322, 2, none⟩ = some (.int .i32 a0_2) := (blk_cell BK322.out 2).trans rfl
                have hcz20_3 : wc.cell? ⟨gb322, 3, none⟩ = some (.bool false) := (blk_cell BK322.out 3).trans rfl
                have hcz20_4 : wc.cell? ⟨gb322, 4, none⟩ = some (.int .u32 a0_4) := (blk_cell BK322.out 4).trans rfl
                have hfz20_0 := blk_frozen BK322.out 0
                have hfz20_1 := blk_frozen BK322.out 1
                have hfz20_2 := blk_frozen BK322.out 2
                have hfz20_3 := blk_frozen BK322.out 3
                have hfz20_4 := blk_frozen BK322.out 4
                go_wp2_with (first | (go_at_call 23; (with_reducible refine (spec_DecText.calls kj4 (wrap64 (a0_2)) t326 _ A18.out).mono ?_); rintro e w' ⟨rfl, ⟨nd, rfl⟩⟩; (try first | exact ⟨rfl, _, World.drewN_drewN _ _ _⟩ | exact ⟨rfl, _, Eq.trans (World.drewN_drewN _ _ _) (congrArg (World.drewN _) (Nat.add_assoc _ _ _))⟩)))
                repeat (go_quiet (first | (go_at_call 23; (with_reducible refine (spec_DecText.calls kj4 (wrap64 (a0_2)) t326 _ A18.out).mono ?_); rintro e w' ⟨rfl, ⟨nd, rfl⟩⟩; (try first | exact ⟨rfl, _, World.drewN_drewN _ _ _⟩ | exact ⟨rfl, _, Eq.trans (World.drewN_drewN _ _ _) (congrArg (World.drewN _) (Nat.add_assoc _ _ _))⟩))); try go_wp2_with (first | (go_at_call 23; (with_reducible refine (spec_DecText.calls kj4 (wrap64 (a0_2)) t326 _ A18.out).mono ?_); rintro e w' ⟨rfl, ⟨nd, rfl⟩⟩; (try first | exact ⟨rfl, _, World.drewN_drewN _ _ _⟩ | exact ⟨rfl, _, Eq.trans (World.drewN_drewN _ _ _) (congrArg (World.drewN _) (Nat.add_assoc _ _ _))⟩))))
                go_ret
                exact ⟨by first | rfl | (rw [← show ∀ l_ : List UInt8, (!l_.isEmpty) = (l_ != []) from fun l_ => by cases l_ <;> rfl]; rfl) | (simp [errW_none, errW_some] <;> rfl) | (simp [*, errW_none, errW_some] <;> rfl), by repeat (first | (with_reducible first | exact HB.out | apply below_alloc | apply pw_below_drewN | apply below_drew1 | refine below_set ?_ GE322.out) | exact HB.out)⟩
              · rw [if_neg c19] at H
                exact absurd H (by simp)
            · rw [if_neg c17] at H
              exact absurd H (by simp)
        · replace c11 := Bool.eq_false_iff.mpr c11
          subst c11
          have H1 : (if a0_0 = 9 then (if t324.size + a0_1.size ≤ 9223372036854775807 then (if (t324 ++ a0_1).size + 1 ≤ 9223372036854775807 then ((spec_DecText.f kj4 (wrap64 (a0_2))).bind fun t327 => (if ((t324 ++ a0_1) ++ (⟨#[35]⟩ : ByteArray)).size + t327.size ≤ 9223372036854775807 then (some (((t324 ++ a0_1) ++ (⟨#[35]⟩ : ByteArray)) ++ t327)) else (none))) else (none)) else (none)) else (if a0_0 = 0 then ((spec_HexText.f kj4 a0_4).bind fun t328 => (if t324.size + t328.size ≤ 9223372036854775807 then (some (t324 ++ t328)) else (none))) else (if t324.size + a0_1.size ≤ 9223372036854775807 then (some (t324 ++ a0_1)) else (none)))) = some r := by rw [if_neg (show ¬ (false = true) by decide)] at H; exact H
          clear H
          have H := H1
          clear H1
          by_cases c21 : a0_0 = 9
          · rw [if_pos c21] at H
            have c21b0 : (a0_0 == 9) = true := beq_iff_eq.mpr c21
            have c21b1 : (a0_0 != 9) = false := bne_eq_false_iff_eq.mpr c21
            clear c21
            by_cases c22 : t324.size + a0_1.size ≤ 9223372036854775807
            · rw [if_pos c22] at H
              have c22b0 := eq_true c22
              have c22b1 : decide (t324.size + a0_1.size ≤ 9223372036854775807) = true := decide_eq_true c22
              try have c22b2 : (9223372036854775807 < t324.size + a0_1.size) = False := eq_false (Nat.not_lt.2 c22)
              by_cases c23 : (t324 ++ a0_1).size + 1 ≤ 9223372036854775807
              · rw [if_pos c23] at H
                have c23b0 := eq_true c23
                have c23b1 : decide ((t324 ++ a0_1).size + 1 ≤ 9223372036854775807) = true := decide_eq_true c23
                try have c23b2 : (9223372036854775807 < (t324 ++ a0_1).size + 1) = False := eq_false (Nat.not_lt.2 c23)
                try (have c23b3 := c23; simp only [ByteArray.size_append] at c23b3; replace c23b3 := eq_true c23b3)
                try (have c23b4 := c23b2; simp only [ByteArray.size_append] at c23b4)
                replace H := Option.bind_eq_some_iff.mp H
                obtain ⟨t327, A240, H⟩ := H
                replace H : (if ((t324 ++ a0_1) ++ (⟨#[35]⟩ : ByteArray)).size + t327.size ≤ 9223372036854775807 then (some (((t324 ++ a0_1) ++ (⟨#[35]⟩ : ByteArray)) ++ t327)) else (none)) = some r := H
                have A24 := Aside0.mk A240
                clear A240
                by_cases c25 : ((t324 ++ a0_1) ++ (⟨#[35]⟩ : ByteArray)).size + t327.size ≤ 9223372036854775807
                · rw [if_pos c25] at H
                  have c25b0 := eq_true c25
                  have c25b1 : decide (((t324 ++ a0_1) ++ (⟨#[35]⟩ : ByteArray)).size + t327.size ≤ 9223372036854775807) = true := decide_eq_true c25
                  try have c25b2 : (9223372036854775807 < ((t324 ++ a0_1) ++ (⟨#[35]⟩ : ByteArray)).size + t327.size) = False := eq_false (Nat.not_lt.2 c25)
                  try (have c25b3 := c25; simp only [ByteArray.size_append] at c25b3; replace c25b3 := eq_true c25b3)
                  try (have c25b4 := c25b2; simp only [ByteArray.size_append] at c25b4; (try rw [show (⟨#[35]⟩ : ByteArray).size = 1 from rfl] at c25b4))
                  obtain rfl := Option.some.inj H
                  have hcz26_0 : wc.cell? ⟨gb322, 0, none⟩ = some (.int .i64 a0_0) := (blk_cell BK322.out 0).trans rfl
                  have hcz26_1 : wc.cell? ⟨gb322, 1, none⟩ = some (.string a0_1) := (blk_cell BK322.out 1).trans rfl
                  have hcz26_2 : wc.cell? ⟨gb322, 2, none⟩ = some (.int .i32 a0_2) := (blk_cell BK322.out 2).trans rfl
                  have hcz26_3 : wc.cell? ⟨gb322, 3, none⟩ = some (.bool a0_3) := (blk_cell BK322.out 3).trans rfl
                  have hcz26_4 : wc.cell? ⟨gb322, 4, none⟩ = some (.int .u32 a0_4) := (blk_cell BK322.out 4).trans rfl
                  have hfz26_0 := blk_frozen BK322.out 0
                  have hfz26_1 := blk_frozen BK322.out 1
                  have hfz26_2 := blk_frozen BK322.out 2
                  have hfz26_3 := blk_frozen BK322.out 3
                  have hfz26_4 := blk_frozen BK322.out 4
                  go_wp2_with (first | (go_at_call 23; (with_reducible refine (spec_DecText.calls kj4 (wrap64 (a0_2)) t327 _ A24.out).mono ?_); rintro e w' ⟨rfl, ⟨nd, rfl⟩⟩; (try first | exact ⟨rfl, _, World.drewN_drewN _ _ _⟩ | exact ⟨rfl, _, Eq.trans (World.drewN_drewN _ _ _) (congrArg (World.drewN _) (Nat.add_assoc _ _ _))⟩)))
                  repeat (go_quiet (first | (go_at_call 23; (with_reducible refine (spec_DecText.calls kj4 (wrap64 (a0_2)) t327 _ A24.out).mono ?_); rintro e w' ⟨rfl, ⟨nd, rfl⟩⟩; (try first | exact ⟨rfl, _, World.drewN_drewN _ _ _⟩ | exact ⟨rfl, _, Eq.trans (World.drewN_drewN _ _ _) (congrArg (World.drewN _) (Nat.add_assoc _ _ _))⟩))); try go_wp2_with (first | (go_at_call 23; (with_reducible refine (spec_DecText.calls kj4 (wrap64 (a0_2)) t327 _ A24.out).mono ?_); rintro e w' ⟨rfl, ⟨nd, rfl⟩⟩; (try first | exact ⟨rfl, _, World.drewN_drewN _ _ _⟩ | exact ⟨rfl, _, Eq.trans (World.drewN_drewN _ _ _) (congrArg (World.drewN _) (Nat.add_assoc _ _ _))⟩))))
                  go_ret
                  exact ⟨by first | rfl | (rw [← show ∀ l_ : List UInt8, (!l_.isEmpty) = (l_ != []) from fun l_ => by cases l_ <;> rfl]; rfl) | (simp [errW_none, errW_some] <;> rfl) | (simp [*, errW_none, errW_some] <;> rfl), by repeat (first | (with_reducible first | exact HB.out | apply below_alloc | apply pw_below_drewN | apply below_drew1 | refine below_set ?_ GE322.out) | exact HB.out)⟩
                · rw [if_neg c25] at H
                  exact absurd H (by simp)
              · rw [if_neg c23] at H
                exact absurd H (by simp)
            · rw [if_neg c22] at H
              exact absurd H (by simp)
          · rw [if_neg c21] at H
            have c21b0 : (a0_0 == 9) = false := beq_eq_false_iff_ne.mpr c21
            have c21b1 : (a0_0 != 9) = true := bne_iff_ne.mpr c21
            by_cases c27 : a0_0 = 0
            · rw [if_pos c27] at H
              have c27b0 : (a0_0 == 0) = true := beq_iff_eq.mpr c27
              have c27b1 : (a0_0 != 0) = false := bne_eq_false_iff_eq.mpr c27
              clear c27
              replace H := Option.bind_eq_some_iff.mp H
              obtain ⟨t328, A280, H⟩ := H
              replace H : (if t324.size + t328.size ≤ 9223372036854775807 then (some (t324 ++ t328)) else (none)) = some r := H
              have A28 := Aside0.mk A280
              clear A280
              by_cases c29 : t324.size + t328.size ≤ 9223372036854775807
              · rw [if_pos c29] at H
                have c29b0 := eq_true c29
                have c29b1 : decide (t324.size + t328.size ≤ 9223372036854775807) = true := decide_eq_true c29
                try have c29b2 : (9223372036854775807 < t324.size + t328.size) = False := eq_false (Nat.not_lt.2 c29)
                obtain rfl := Option.some.inj H
                have hcz30_0 : wc.cell? ⟨gb322, 0, none⟩ = some (.int .i64 a0_0) := (blk_cell BK322.out 0).trans rfl
                have hcz30_1 : wc.cell? ⟨gb322, 1, none⟩ = some (.string a0_1) := (blk_cell BK322.out 1).trans rfl
                have hcz30_2 : wc.cell? ⟨gb322, 2, none⟩ = some (.int .i32 a0_2) := (blk_cell BK322.out 2).trans rfl
                have hcz30_3 : wc.cell? ⟨gb322, 3, none⟩ = some (.bool a0_3) := (blk_cell BK322.out 3).trans rfl
                have hcz30_4 : wc.cell? ⟨gb322, 4, none⟩ = some (.int .u32 a0_4) := (blk_cell BK322.out 4).trans rfl
                have hfz30_0 := blk_frozen BK322.out 0
                have hfz30_1 := blk_frozen BK322.out 1
                have hfz30_2 := blk_frozen BK322.out 2
                have hfz30_3 := blk_frozen BK322.out 3
                have hfz30_4 := blk_frozen BK322.out 4
                go_wp2_with (first | (go_at_call 22; (with_reducible refine (spec_HexText.calls kj4 a0_4 t328 _ A28.out).mono ?_); rintro e w' ⟨rfl, ⟨nd, rfl⟩⟩; (try first | exact ⟨rfl, _, World.drewN_drewN _ _ _⟩ | exact ⟨rfl, _, Eq.trans (World.drewN_drewN _ _ _) (congrArg (World.drewN _) (Nat.add_assoc _ _ _))⟩)))
                repeat (go_quiet (first | (go_at_call 22; (with_reducible refine (spec_HexText.calls kj4 a0_4 t328 _ A28.out).mono ?_); rintro e w' ⟨rfl, ⟨nd, rfl⟩⟩; (try first | exact ⟨rfl, _, World.drewN_drewN _ _ _⟩ | exact ⟨rfl, _, Eq.trans (World.drewN_drewN _ _ _) (congrArg (World.drewN _) (Nat.add_assoc _ _ _))⟩))); try go_wp2_with (first | (go_at_call 22; (with_reducible refine (spec_HexText.calls kj4 a0_4 t328 _ A28.out).mono ?_); rintro e w' ⟨rfl, ⟨nd, rfl⟩⟩; (try first | exact ⟨rfl, _, World.drewN_drewN _ _ _⟩ | exact ⟨rfl, _, Eq.trans (World.drewN_drewN _ _ _) (congrArg (World.drewN _) (Nat.add_assoc _ _ _))⟩))))
                go_ret
                exact ⟨by first | rfl | (rw [← show ∀ l_ : List UInt8, (!l_.isEmpty) = (l_ != []) from fun l_ => by cases l_ <;> rfl]; rfl) | (simp [errW_none, errW_some] <;> rfl) | (simp [*, errW_none, errW_some] <;> rfl), by repeat (first | (with_reducible first | exact HB.out | apply below_alloc | apply pw_below_drewN | apply below_drew1 | refine below_set ?_ GE322.out) | exact HB.out)⟩
              · rw [if_neg c29] at H
                exact absurd H (by simp)
            · rw [if_neg c27] at H
              have c27b0 : (a0_0 == 0) = false := beq_eq_false_iff_ne.mpr c27
              have c27b1 : (a0_0 != 0) = true := bne_iff_ne.mpr c27
              by_cases c31 : t324.size + a0_1.size ≤ 9223372036854775807
              · rw [if_pos c31] at H
                have c31b0 := eq_true c31
                have c31b1 : decide (t324.size + a0_1.size ≤ 9223372036854775807) = true := decide_eq_true c31
                try have c31b2 : (9223372036854775807 < t324.size + a0_1.size) = False := eq_false (Nat.not_lt.2 c31)
                obtain rfl := Option.some.inj H
                have hcz32_0 : wc.cell? ⟨gb322, 0, none⟩ = some (.int .i64 a0_0) := (blk_cell BK322.out 0).trans rfl
                have hcz32_1 : wc.cell? ⟨gb322, 1, none⟩ = some (.string a0_1) := (blk_cell BK322.out 1).trans rfl
                have hcz32_2 : wc.cell? ⟨gb322, 2, none⟩ = some (.int .i32 a0_2) := (blk_cell BK322.out 2).trans rfl
                have hcz32_3 : wc.cell? ⟨gb322, 3, none⟩ = some (.bool a0_3) := (blk_cell BK322.out 3).trans rfl
                have hcz32_4 : wc.cell? ⟨gb322, 4, none⟩ = some (.int .u32 a0_4) := (blk_cell BK322.out 4).trans rfl
                have hfz32_0 := blk_frozen BK322.out 0
                have hfz32_1 := blk_frozen BK322.out 1
                have hfz32_2 := blk_frozen BK322.out 2
                have hfz32_3 := blk_frozen BK322.out 3
                have hfz32_4 := blk_frozen BK322.out 4
                go_wp2
                repeat (go_quiet (fail); try go_wp2)
                go_ret
                exact ⟨by first | rfl | (rw [← show ∀ l_ : List UInt8, (!l_.isEmpty) = (l_ != []) from fun l_ => by cases l_ <;> rfl]; rfl) | (simp [errW_none, errW_some] <;> rfl) | (simp [*, errW_none, errW_some] <;> rfl), by repeat (first | (with_reducible first | exact HB.out | apply below_alloc | apply pw_below_drewN | apply below_drew1 | refine below_set ?_ GE322.out) | exact HB.out)⟩
              · rw [if_neg c31] at H
                exact absurd H (by simp)
  · replace c3 := Bool.eq_false_iff.mpr c3
    subst c3
    have H1 : (some (⟨#[]⟩ : ByteArray)) = some r := by rw [if_neg (show ¬ (false = true) by decide)] at H; exact H
    clear H
    have H := H1
    clear H1
    obtain rfl := Option.some.inj H
    go_enter Tryd.func8, Tryd.ntmps8
    go_wp2_with (first | ((with_reducible refine gate_dst (N := 1) rfl ?_); refine box_event ?hg (N := 1) ?hd (cs := #[.int .i64 a0_0, .string a0_1, .int .i32 a0_2, .bool a0_3, .int .u32 a0_4]) (t := 27) ?hr ?_; (case hd => rfl); (case hg => rfl); (case hr => first | (go_simp; done) | (go_simp; rfl)); intro gb322 hg w33 hbox hb; have n0_ := Aside0.mk (below_step (by repeat (first | (with_reducible first | exact HB.out | apply below_alloc | apply pw_below_drewN | apply below_drew1) | exact HB.out)) hb); have n1_ := Aside0.mk (hbox); have n2_ := Aside0.mk ((by rw [hg]; exact (below_size (by repeat (first | (with_reducible first | exact HB.out | apply below_alloc | apply pw_below_drewN | apply below_drew1) | exact HB.out))) : w.heap.size ≤ gb322)); have n3_ := Aside0.mk ((by rw [hg]; exact (below_size (by repeat (first | (with_reducible first | exact HB.out | apply below_alloc | apply pw_below_drewN | apply below_drew1) | exact HB.out))) : w.heap.size ≤ gb322)); clear HB; have HB := n0_; have BK322 := n1_; have GW322 := n2_; have GE322 := n3_; clear n0_ n1_ n2_ n3_; clear hb hbox hg; have hcz34_0 : w33.cell? ⟨gb322, 0, none⟩ = some (.int .i64 a0_0) := (blk_cell BK322.out 0).trans rfl; have hcz34_1 : w33.cell? ⟨gb322, 1, none⟩ = some (.string a0_1) := (blk_cell BK322.out 1).trans rfl; have hcz34_2 : w33.cell? ⟨gb322, 2, none⟩ = some (.int .i32 a0_2) := (blk_cell BK322.out 2).trans rfl; have hcz34_3 : w33.cell? ⟨gb322, 3, none⟩ = some (.bool a0_3) := (blk_cell BK322.out 3).trans rfl; have hcz34_4 : w33.cell? ⟨gb322, 4, none⟩ = some (.int .u32 a0_4) := (blk_cell BK322.out 4).trans rfl; have hfz34_0 := blk_frozen BK322.out 0; have hfz34_1 := blk_frozen BK322.out 1; have hfz34_2 := blk_frozen BK322.out 2; have hfz34_3 := blk_frozen BK322.out 3; have hfz34_4 := blk_frozen BK322.out 4) | (go_at_call 18; (with_reducible refine (spec_ItemOk.calls k a0_0 a0_1 a0_2 a0_3 a0_4 false _ A2.out).mono ?_); rintro e w35 ⟨rfl, hb⟩; have n0_ := Aside0.mk (blk_below (g := gb322) (o := .cells #[.int .i64 a0_0, .string a0_1, .int .i32 a0_2, .bool a0_3, .int .u32 a0_4] 27 (0, 0)) (by (with_reducible repeat (first | refine blk_drewN ?_ _ | refine blk_drew ?_ | refine blk_alloc ?_ _)); exact BK322.out) hb); have n1_ := Aside0.mk (below_step (by repeat (first | (with_reducible first | exact HB.out | apply below_alloc | apply pw_below_drewN | apply below_drew1 | refine below_set ?_ GE322.out) | exact HB.out)) hb); clear BK322; clear HB; have BK322 := n0_; have HB := n1_; clear n0_ n1_; (try clear hb); (try clear hb2); (try clear hk); (try clear hi)))
    repeat (go_quiet (first | ((with_reducible refine gate_dst (N := 1) rfl ?_); refine box_event ?hg (N := 1) ?hd (cs := #[.int .i64 a0_0, .string a0_1, .int .i32 a0_2, .bool a0_3, .int .u32 a0_4]) (t := 27) ?hr ?_; (case hd => rfl); (case hg => rfl); (case hr => first | (go_simp; done) | (go_simp; rfl)); intro gb322 hg w33 hbox hb; have n0_ := Aside0.mk (below_step (by repeat (first | (with_reducible first | exact HB.out | apply below_alloc | apply pw_below_drewN | apply below_drew1) | exact HB.out)) hb); have n1_ := Aside0.mk (hbox); have n2_ := Aside0.mk ((by rw [hg]; exact (below_size (by repeat (first | (with_reducible first | exact HB.out | apply below_alloc | apply pw_below_drewN | apply below_drew1) | exact HB.out))) : w.heap.size ≤ gb322)); have n3_ := Aside0.mk ((by rw [hg]; exact (below_size (by repeat (first | (with_reducible first | exact HB.out | apply below_alloc | apply pw_below_drewN | apply below_drew1) | exact HB.out))) : w.heap.size ≤ gb322)); clear HB; have HB := n0_; have BK322 := n1_; have GW322 := n2_; have GE322 := n3_; clear n0_ n1_ n2_ n3_; clear hb hbox hg; have hcz34_0 : w33.cell? ⟨gb322, 0, none⟩ = some (.int .i64 a0_0) := (blk_cell BK322.out 0).trans rfl; have hcz34_1 : w33.cell? ⟨gb322, 1, none⟩ = some (.string a0_1) := (blk_cell BK322.out 1).trans rfl; have hcz34_2 : w33.cell? ⟨gb322, 2, none⟩ = some (.int .i32 a0_2) := (blk_cell BK322.out 2).trans rfl; have hcz34_3 : w33.cell? ⟨gb322, 3, none⟩ = some (.bool a0_3) := (blk_cell BK322.out 3).trans rfl; have hcz34_4 : w33.cell? ⟨gb322, 4, none⟩ = some (.int .u32 a0_4) := (blk_cell BK322.out 4).trans rfl; have hfz34_0 := blk_frozen BK322.out 0; have hfz34_1 := blk_frozen BK322.out 1; have hfz34_2 := blk_frozen BK322.out 2; have hfz34_3 := blk_frozen BK322.out 3; have hfz34_4 := blk_frozen BK322.out 4) | (go_at_call 18; (with_reducible refine (spec_ItemOk.calls k a0_0 a0_1 a0_2 a0_3 a0_4 false _ A2.out).mono ?_); rintro e w35 ⟨rfl, hb⟩; have n0_ := Aside0.mk (blk_below (g := gb322) (o := .cells #[.int .i64 a0_0, .string a0_1, .int .i32 a0_2, .bool a0_3, .int .u32 a0_4] 27 (0, 0)) (by (with_reducible repeat (first | refine blk_drewN ?_ _ | refine blk_drew ?_ | refine blk_alloc ?_ _)); exact BK322.out) hb); have n1_ := Aside0.mk (below_step (by repeat (first | (with_reducible first | exact HB.out | apply below_alloc | apply pw_below_drewN | apply below_drew1 | refine below_set ?_ GE322.out) | exact HB.out)) hb); clear BK322; clear HB; have BK322 := n0_; have HB := n1_; clear n0_ n1_; (try clear hb); (try clear hb2); (try clear hk); (try clear hi))); try go_wp2_with (first | ((with_reducible refine gate_dst (N := 1) rfl ?_); refine box_event ?hg (N := 1) ?hd (cs := #[.int .i64 a0_0, .string a0_1, .int .i32 a0_2, .bool a0_3, .int .u32 a0_4]) (t := 27) ?hr ?_; (case hd => rfl); (case hg => rfl); (case hr => first | (go_simp; done) | (go_simp; rfl)); intro gb322 hg w33 hbox hb; have n0_ := Aside0.mk (below_step (by repeat (first | (with_reducible first | exact HB.out | apply below_alloc | apply pw_below_drewN | apply below_drew1) | exact HB.out)) hb); have n1_ := Aside0.mk (hbox); have n2_ := Aside0.mk ((by rw [hg]; exact (below_size (by repeat (first | (with_reducible first | exact HB.out | apply below_alloc | apply pw_below_drewN | apply below_drew1) | exact HB.out))) : w.heap.size ≤ gb322)); have n3_ := Aside0.mk ((by rw [hg]; exact (below_size (by repeat (first | (with_reducible first | exact HB.out | apply below_alloc | apply pw_below_drewN | apply below_drew1) | exact HB.out))) : w.heap.size ≤ gb322)); clear HB; have HB := n0_; have BK322 := n1_; have GW322 := n2_; have GE322 := n3_; clear n0_ n1_ n2_ n3_; clear hb hbox hg; have hcz34_0 : w33.cell? ⟨gb322, 0, none⟩ = some (.int .i64 a0_0) := (blk_cell BK322.out 0).trans rfl; have hcz34_1 : w33.cell? ⟨gb322, 1, none⟩ = some (.string a0_1) := (blk_cell BK322.out 1).trans rfl; have hcz34_2 : w33.cell? ⟨gb322, 2, none⟩ = some (.int .i32 a0_2) := (blk_cell BK322.out 2).trans rfl; have hcz34_3 : w33.cell? ⟨gb322, 3, none⟩ = some (.bool a0_3) := (blk_cell BK322.out 3).trans rfl; have hcz34_4 : w33.cell? ⟨gb322, 4, none⟩ = some (.int .u32 a0_4) := (blk_cell BK322.out 4).trans rfl; have hfz34_0 := blk_frozen BK322.out 0; have hfz34_1 := blk_frozen BK322.out 1; have hfz34_2 := blk_frozen BK322.out 2; have hfz34_3 := blk_frozen BK322.out 3; have hfz34_4 := blk_frozen BK322.out 4) | (go_at_call 18; (with_reducible refine (spec_ItemOk.calls k a0_0 a0_1 a0_2 a0_3 a0_4 false _ A2.out).mono ?_); rintro e w35 ⟨rfl, hb⟩; have n0_ := Aside0.mk (blk_below (g := gb322) (o := .cells #[.int .i64 a0_0, .string a0_1, .int .i32 a0_2, .bool a0_3, .int .u32 a0_4] 27 (0, 0)) (by (with_reducible repeat (first | refine blk_drewN ?_ _ | refine blk_drew ?_ | refine blk_alloc ?_ _)); exact BK322.out) hb); have n1_ := Aside0.mk (below_step (by repeat (first | (with_reducible first | exact HB.out | apply below_alloc | apply pw_below_drewN | apply below_drew1 | refine below_set ?_ GE322.out) | exact HB.out)) hb); clear BK322; clear HB; have BK322 := n0_; have HB := n1_; clear n0_ n1_; (try clear hb); (try clear hb2); (try clear hk); (try clear hi))))
    go_ret
    exact ⟨by first | rfl | (rw [← show ∀ l_ : List UInt8, (!l_.isEmpty) = (l_ != []) from fun l_ => by cases l_ <;> rfl]; rfl) | (simp [errW_none, errW_some] <;> rfl) | (simp [*, errW_none, errW_some] <;> rfl), by repeat (first | (with_reducible first | exact HB.out | apply below_alloc | apply pw_below_drewN | apply below_drew1 | refine below_set ?_ GE322.out) | exact HB.out)⟩

/-! ### spec_l01Digit: function 84 -/
def spec_l01Digit.f (a0 : Int) : Option (Bool) := (spec_l01In.f (wrap64 (a0)) 48 57).bind fun t329 => (some t329)
set_option maxHeartbeats 8000000 in
set_option maxRecDepth 100000 in
theorem spec_l01Digit.calls (a0 : Int) (r : Bool) (w : World) (h : spec_l01Digit.f a0 = some r) :
    Calls Tryd.prog 84 #[.int .u8 a0] w fun e w' => e = .returned (.bool r) ∧ Drawn0 w w' := by
  have H : ((spec_l01In.f (wrap64 (a0)) 48 57).bind fun t329 => (some t329)) = some r := h
  clear h
  replace H := Option.bind_eq_some_iff.mp H
  obtain ⟨t329, A20, H⟩ := H
  replace H : (some t329) = some r := H
  have A2 := Aside0.mk A20
  clear A20
  obtain rfl := Option.some.inj H
  go_enter Tryd.func84, Tryd.ntmps84
  go_wp2_with (first | ((with_reducible refine gate_callee (f := 83) rfl ?_); refine goesL_ (some 5) rfl rfl Tryd.func83 (by kernel_rfl) rfl #[.int .i64 (wrap64 (a0)), .int .i64 48, .int .i64 57] rfl (by (try simp only [List.map_toArray, List.map_cons, List.map_nil]); first | done | rfl | (simp only [List.length_drop, List.length_take]; rfl)) ?_; (with_reducible refine (spec_l01In.calls (wrap64 (a0)) 48 57 t329 _ A2.out).mono ?_); rintro e w' ⟨rfl, ⟨nd, rfl⟩⟩; refine ⟨_, rfl, ?_⟩))
  go_ret
  exact ⟨by first | rfl | (simp; done) | (simp [*]; done) | (simp [bne]; done), by repeat (first | exact Drawn0.refl _ | apply Drawn0.step)⟩

/-! ### spec_ReadHex: function 55 -/
def spec_ReadHex.l0 : Nat → ByteArray → Int → Int → Option (Int × Bool)
  | 0, _, _, _ => none
  | k + 1, x0, x4, x5 => if x5 < (x0.size : Int) then (if 0 ≤ x5 then ((spec_l01Digit.f (bt x0 x5)).bind fun t332 => (if t332 = true then (spec_ReadHex.l0 k x0 (wrap64 ((wrap64 ((wrap64 (16 * x4)) + (wrap64 (bt x0 x5)))) - 48)) (wrap64 (x5 + 1))) else ((spec_l01In.f (wrap64 (bt x0 x5)) 97 102).bind fun t333 => (if t333 = true then (spec_ReadHex.l0 k x0 (wrap64 ((wrap64 ((wrap64 (16 * x4)) + (wrap64 (bt x0 x5)))) - 87)) (wrap64 (x5 + 1))) else (some (0, false)))))) else (none)) else ((spec_HexText.f k ((x4) % 4294967296)).bind fun t331 => (if t331.toList = x0.toList then (some ((x4) % 4294967296, true)) else (some (0, false))))
def spec_ReadHex.f (k : Nat) (a0 : ByteArray) : Option (Int × Bool) := (spec_l01In.f (a0.size : Int) 1 8).bind fun t330 => (if t330 = true then (spec_ReadHex.l0 k a0 0 0) else (some (0, false)))
theorem spec_ReadHex.mono_l : ∀ k, (∀ y0 y1 y2, LeO (spec_ReadHex.l0 k y0 y1 y2) (spec_ReadHex.l0 (k + 1) y0 y1 y2))
  | 0 => fun _ _ _ r h => by simp [spec_ReadHex.l0] at h
  | k + 1 => by
    have ih0 := spec_ReadHex.mono_l k
    · intro y0 y1 y2
      unfold spec_ReadHex.l0
      repeat' first
      | (with_reducible exact ih0 _ _ _)
      | (with_reducible exact spec_HexText.mono _ _)
      | (with_reducible exact LeO.refl _)
      | (with_reducible exact LeO.none _)
      | (with_reducible refine LeO.ite ?_ ?_)
      | (with_reducible refine LeO.bind ?_ (fun _ => ?_))
      | exact ih0 _ _ _
      | exact spec_HexText.mono _ _
      | exact LeO.none _
      | refine LeO.ite ?_ ?_
      | refine LeO.bind ?_ (fun _ => ?_)
theorem spec_ReadHex.mono : ∀ a0 k, LeO (spec_ReadHex.f k a0) (spec_ReadHex.f (k + 1) a0) := by
  intro a0 k
  have ih0 := spec_ReadHex.mono_l k
  unfold spec_ReadHex.f
  repeat' first
      | (with_reducible exact ih0 _ _ _)
      | (with_reducible exact spec_HexText.mono _ _)
      | (with_reducible exact LeO.refl _)
      | (with_reducible exact LeO.none _)
      | (with_reducible refine LeO.ite ?_ ?_)
      | (with_reducible refine LeO.bind ?_ (fun _ => ?_))
      | exact ih0 _ _ _
      | exact spec_HexText.mono _ _
      | exact LeO.none _
      | refine LeO.ite ?_ ?_
      | refine LeO.bind ?_ (fun _ => ?_)
set_option maxHeartbeats 8000000 in
set_option maxRecDepth 100000 in
theorem spec_ReadHex.calls (k : Nat) (a0 : ByteArray) (r1 : Int) (r2 : Bool) (w : World) (h : spec_ReadHex.f k a0 = some (r1, r2)) :
    Calls Tryd.prog 55 #[.string a0] w fun e w' => e = .returned (.tuple #[.int .u32 r1, .bool r2]) ∧ Drawn0 w w' := by
  have H : ((spec_l01In.f (a0.size : Int) 1 8).bind fun t330 => (if t330 = true then (spec_ReadHex.l0 k a0 0 0) else (some (0, false)))) = some (r1, r2) := h
  clear h
  replace H := Option.bind_eq_some_iff.mp H
  obtain ⟨t330, A20, H⟩ := H
  replace H : (if t330 = true then (spec_ReadHex.l0 k a0 0 0) else (some (0, false))) = some (r1, r2) := H
  have A2 := Aside0.mk A20
  clear A20
  by_cases c3 : t330 = true
  · subst c3
    have H1 : (spec_ReadHex.l0 k a0 0 0) = some (r1, r2) := by rw [if_pos rfl] at H; exact H
    clear H
    have H := H1
    clear H1
    have H' := Aside0.mk H
    clear H
    go_enter Tryd.func55, Tryd.ntmps55
    go_wp2_with (first | ((with_reducible refine gate_callee (f := 83) rfl ?_); refine goesL_ (some 8) rfl rfl Tryd.func83 (by kernel_rfl) rfl #[.int .i64 (a0.size : Int), .int .i64 1, .int .i64 8] rfl (by (try simp only [List.map_toArray, List.map_cons, List.map_nil]); first | done | rfl | (simp only [List.length_drop, List.length_take]; rfl)) ?_; (with_reducible refine (spec_l01In.calls (a0.size : Int) 1 8 true _ A2.out).mono ?_); rintro e w' ⟨rfl, ⟨nd, rfl⟩⟩; refine ⟨_, rfl, ?_⟩))
    go_loopg [4, 5] k (fun kq v4 v5 w' => ∃ (x4_1 : Int) (x5_1 : Int), v4 = .int .i64 x4_1 ∧ v5 = .int .i64 x5_1 ∧ Aside0 (spec_ReadHex.l0 kq a0 x4_1 x5_1 = some (r1, r2)) ∧ Aside0 (kq ≤ k) ∧ Drawn0 w w')
    case atStart => exact ⟨(0), (0), (by first | rfl | (simp; done) | (simp [*]; done) | (simp [bne]; done)), (by first | rfl | (simp; done) | (simp [*]; done) | (simp [bne]; done)), H', ⟨Nat.le_refl _⟩, by repeat (first | exact Drawn0.refl _ | apply Drawn0.step)⟩
    case round =>
      clear H'
      try clear p2
      try clear c3
      obtain ⟨x4_1, x5_1, rfl, rfl, HA, HK1, ⟨m1, rfl⟩⟩ := hrel
      cases gk with
      | zero => exact absurd HA.out (by simp [spec_ReadHex.l0])
      | succ k1 =>
        have H := HA.out
        clear HA
        simp only [spec_ReadHex.l0] at H
        by_cases c4 : x5_1 < (a0.size : Int)
        · rw [if_pos c4] at H
          have c4b0 : decide (x5_1 < (a0.size : Int)) = true := decide_eq_true c4
          clear c4
          by_cases c5 : 0 ≤ x5_1
          · rw [if_pos c5] at H
            have c5b0 : decide (0 ≤ x5_1) = true := decide_eq_true c5
            clear c5
            replace H := Option.bind_eq_some_iff.mp H
            obtain ⟨t332, A70, H⟩ := H
            replace H : (if t332 = true then (spec_ReadHex.l0 k1 a0 (wrap64 ((wrap64 ((wrap64 (16 * x4_1)) + (wrap64 (bt a0 x5_1)))) - 48)) (wrap64 (x5_1 + 1))) else ((spec_l01In.f (wrap64 (bt a0 x5_1)) 97 102).bind fun t333 => (if t333 = true then (spec_ReadHex.l0 k1 a0 (wrap64 ((wrap64 ((wrap64 (16 * x4_1)) + (wrap64 (bt a0 x5_1)))) - 87)) (wrap64 (x5_1 + 1))) else (some (0, false))))) = some (r1, r2) := H
            have A7 := Aside0.mk A70
            clear A70
            by_cases c8 : t332 = true
            · subst c8
              have H1 : (spec_ReadHex.l0 k1 a0 (wrap64 ((wrap64 ((wrap64 (16 * x4_1)) + (wrap64 (bt a0 x5_1)))) - 48)) (wrap64 (x5_1 + 1))) = some (r1, r2) := by rw [if_pos rfl] at H; exact H
              clear H
              have H := H1
              clear H1
              have H' := Aside0.mk H
              clear H
              have p6 : 0 ≤ (x5_1 : Int) := of_decide_eq_true (by first | (with_reducible assumption) | assumption)
              have q6 : x5_1 < (a0.size : Int) := of_decide_eq_true (by first | (with_reducible assumption) | assumption)
              have hx6 := bt_at a0 x5_1
              replace p6 := eq_true p6
              replace q6 := eq_true q6
              go_wp2_with (first | ((with_reducible refine gate_callee (f := 84) rfl ?_); refine goesL_ (some 20) rfl rfl Tryd.func84 (by kernel_rfl) rfl #[.int .u8 (bt a0 x5_1)] rfl (by (try simp only [List.map_toArray, List.map_cons, List.map_nil]); first | done | rfl | (simp only [List.length_drop, List.length_take]; rfl)) ?_; (with_reducible refine (spec_l01Digit.calls (bt a0 x5_1) true _ A7.out).mono ?_); rintro e w' ⟨rfl, ⟨nd, rfl⟩⟩; refine ⟨_, rfl, ?_⟩; have p9 : 0 ≤ (x5_1 : Int) := of_decide_eq_true (by first | (with_reducible assumption) | assumption); have q9 : x5_1 < (a0.size : Int) := of_decide_eq_true (by first | (with_reducible assumption) | assumption); have hx9 := bt_at a0 x5_1; replace p9 := eq_true p9; replace q9 := eq_true q9))
              go_roundg k1
              case measure => have := HK1.out; omega
              case rel => exact ⟨(wrap64 ((wrap64 ((wrap64 (16 * x4_1)) + (wrap64 (bt a0 x5_1)))) - 48)), (wrap64 (x5_1 + 1)), (by first | rfl | (simp; done) | (simp [*]; done) | (simp [bne]; done)), (by first | rfl | (simp; done) | (simp [*]; done) | (simp [bne]; done)), H', ⟨by have := HK1.out; omega⟩, by repeat (first | exact Drawn0.refl _ | apply Drawn0.step)⟩
            · replace c8 := Bool.eq_false_iff.mpr c8
              subst c8
              have H1 : ((spec_l01In.f (wrap64 (bt a0 x5_1)) 97 102).bind fun t333 => (if t333 = true then (spec_ReadHex.l0 k1 a0 (wrap64 ((wrap64 ((wrap64 (16 * x4_1)) + (wrap64 (bt a0 x5_1)))) - 87)) (wrap64 (x5_1 + 1))) else (some (0, false)))) = some (r1, r2) := by rw [if_neg (show ¬ (false = true) by decide)] at H; exact H
              clear H
              have H := H1
              clear H1
              replace H := Option.bind_eq_some_iff.mp H
              obtain ⟨t333, A110, H⟩ := H
              replace H : (if t333 = true then (spec_ReadHex.l0 k1 a0 (wrap64 ((wrap64 ((wrap64 (16 * x4_1)) + (wrap64 (bt a0 x5_1)))) - 87)) (wrap64 (x5_1 + 1))) else (some (0, false))) = some (r1, r2) := H
              have A11 := Aside0.mk A110
              clear A110
              by_cases c12 : t333 = true
              · subst c12
                have H1 : (spec_ReadHex.l0 k1 a0 (wrap64 ((wrap64 ((wrap64 (16 * x4_1)) + (wrap64 (bt a0 x5_1)))) - 87)) (wrap64 (x5_1 + 1))) = some (r1, r2) := by rw [if_pos rfl] at H; exact H
                clear H
                have H := H1
                clear H1
                have H' := Aside0.mk H
                clear H
                have p6 : 0 ≤ (x5_1 : Int) := of_decide_eq_true (by first | (with_reducible assumption) | assumption)
                have q6 : x5_1 < (a0.size : Int) := of_decide_eq_true (by first | (with_reducible assumption) | assumption)
                have hx6 := bt_at a0 x5_1
                replace p6 := eq_true p6
                replace q6 := eq_true q6
                go_wp2_with (first | ((with_reducible refine gate_callee (f := 84) rfl ?_); refine goesL_ (some 20) rfl rfl Tryd.func84 (by kernel_rfl) rfl #[.int .u8 (bt a0 x5_1)] rfl (by (try simp only [List.map_toArray, List.map_cons, List.map_nil]); first | done | rfl | (simp only [List.length_drop, List.length_take]; rfl)) ?_; (with_reducible refine (spec_l01Digit.calls (bt a0 x5_1) false _ A7.out).mono ?_); rintro e w' ⟨rfl, ⟨nd, rfl⟩⟩; refine ⟨_, rfl, ?_⟩; have p10 : 0 ≤ (x5_1 : Int) := of_decide_eq_true (by first | (with_reducible assumption) | assumption); have q10 : x5_1 < (a0.size : Int) := of_decide_eq_true (by first | (with_reducible assumption) | assumption); have hx10 := bt_at a0 x5_1; replace p10 := eq_true p10; replace q10 := eq_true q10) | ((with_reducible refine gate_callee (f := 83) rfl ?_); refine goesL_ (some 34) rfl rfl Tryd.func83 (by kernel_rfl) rfl #[.int .i64 (wrap64 (bt a0 x5_1)), .int .i64 97, .int .i64 102] rfl (by (try simp only [List.map_toArray, List.map_cons, List.map_nil]); first | done | rfl | (simp only [List.length_drop, List.length_take]; rfl)) ?_; (with_reducible refine (spec_l01In.calls (wrap64 (bt a0 x5_1)) 97 102 true _ A11.out).mono ?_); rintro e w' ⟨rfl, ⟨nd, rfl⟩⟩; refine ⟨_, rfl, ?_⟩; have p13 : 0 ≤ (x5_1 : Int) := of_decide_eq_true (by first | (with_reducible assumption) | assumption); have q13 : x5_1 < (a0.size : Int) := of_decide_eq_true (by first | (with_reducible assumption) | assumption); have hx13 := bt_at a0 x5_1; replace p13 := eq_true p13; replace q13 := eq_true q13))
                go_roundg k1
                case measure => have := HK1.out; omega
                case rel => exact ⟨(wrap64 ((wrap64 ((wrap64 (16 * x4_1)) + (wrap64 (bt a0 x5_1)))) - 87)), (wrap64 (x5_1 + 1)), (by first | rfl | (simp; done) | (simp [*]; done) | (simp [bne]; done)), (by first | rfl | (simp; done) | (simp [*]; done) | (simp [bne]; done)), H', ⟨by have := HK1.out; omega⟩, by repeat (first | exact Drawn0.refl _ | apply Drawn0.step)⟩
              · replace c12 := Bool.eq_false_iff.mpr c12
                subst c12
                have H1 : (some (0, false)) = some (r1, r2) := by rw [if_neg (show ¬ (false = true) by decide)] at H; exact H
                clear H
                have H := H1
                clear H1
                simp only [Option.some.injEq, Prod.mk.injEq] at H
                obtain ⟨rfl, rfl⟩ := H
                have p6 : 0 ≤ (x5_1 : Int) := of_decide_eq_true (by first | (with_reducible assumption) | assumption)
                have q6 : x5_1 < (a0.size : Int) := of_decide_eq_true (by first | (with_reducible assumption) | assumption)
                have hx6 := bt_at a0 x5_1
                replace p6 := eq_true p6
                replace q6 := eq_true q6
                go_wp2_with (first | ((with_reducible refine gate_callee (f := 84) rfl ?_); refine goesL_ (some 20) rfl rfl Tryd.func84 (by kernel_rfl) rfl #[.int .u8 (bt a0 x5_1)] rfl (by (try simp only [List.map_toArray, List.map_cons, List.map_nil]); first | done | rfl | (simp only [List.length_drop, List.length_take]; rfl)) ?_; (with_reducible refine (spec_l01Digit.calls (bt a0 x5_1) false _ A7.out).mono ?_); rintro e w' ⟨rfl, ⟨nd, rfl⟩⟩; refine ⟨_, rfl, ?_⟩; have p10 : 0 ≤ (x5_1 : Int) := of_decide_eq_true (by first | (with_reducible assumption) | assumption); have q10 : x5_1 < (a0.size : Int) := of_decide_eq_true (by first | (with_reducible assumption) | assumption); have hx10 := bt_at a0 x5_1; replace p10 := eq_true p10; replace q10 := eq_true q10) | ((with_reducible refine gate_callee (f := 83) rfl ?_); refine goesL_ (some 34) rfl rfl Tryd.func83 (by kernel_rfl) rfl #[.int .i64 (wrap64 (bt a0 x5_1)), .int .i64 97, .int .i64 102] rfl (by (try simp only [List.map_toArray, List.map_cons, List.map_nil]); first | done | rfl | (simp only [List.length_drop, List.length_take]; rfl)) ?_; (with_reducible refine (spec_l01In.calls (wrap64 (bt a0 x5_1)) 97 102 false _ A11.out).mono ?_); rintro e w' ⟨rfl, ⟨nd, rfl⟩⟩; refine ⟨_, rfl, ?_⟩))
                go_ret2
                exact ⟨by first | rfl | (simp; done) | (simp [*]; done) | (simp [bne]; done), by repeat (first | exact Drawn0.refl _ | apply Drawn0.step)⟩
          · rw [if_neg c5] at H
            exact absurd H (by simp)
        · rw [if_neg c4] at H
          have c4b0 : decide (x5_1 < (a0.size : Int)) = false := decide_eq_false c4
          clear c4
          replace H := Option.bind_eq_some_iff.mp H
          obtain ⟨t331, A140, H⟩ := H
          replace H : (if t331.toList = a0.toList then (some ((x4_1) % 4294967296, true)) else (some (0, false))) = some (r1, r2) := H
          have A14 := Aside0.mk A140
          clear A140
          by_cases c15 : t331.toList = a0.toList
          · rw [if_pos c15] at H
            have c15b0 : (t331.toList == a0.toList) = true := beq_iff_eq.mpr c15
            have c15b1 : (t331.toList != a0.toList) = false := bne_eq_false_iff_eq.mpr c15
            clear c15
            simp only [Option.some.injEq, Prod.mk.injEq] at H
            obtain ⟨rfl, rfl⟩ := H
            go_wp2_with (first | ((with_reducible refine gate_callee (f := 22) rfl ?_); refine goesL_ (some 45) rfl rfl Tryd.func22 (by kernel_rfl) rfl #[.int .u32 ((x4_1) % 4294967296)] rfl (by (try simp only [List.map_toArray, List.map_cons, List.map_nil]); first | done | rfl | (simp only [List.length_drop, List.length_take]; rfl)) ?_; (with_reducible refine (spec_HexText.calls k1 ((x4_1) % 4294967296) t331 _ A14.out).mono ?_); rintro e w' ⟨rfl, ⟨nd, rfl⟩⟩; refine ⟨_, rfl, ?_⟩))
            go_ret2
            exact ⟨by first | rfl | (simp; done) | (simp [*]; done) | (simp [bne]; done), by repeat (first | exact Drawn0.refl _ | apply Drawn0.step)⟩
          · rw [if_neg c15] at H
            have c15b0 : (t331.toList == a0.toList) = false := beq_eq_false_iff_ne.mpr c15
            have c15b1 : (t331.toList != a0.toList) = true := bne_iff_ne.mpr c15
            simp only [Option.some.injEq, Prod.mk.injEq] at H
            obtain ⟨rfl, rfl⟩ := H
            go_wp2_with (first | ((with_reducible refine gate_callee (f := 22) rfl ?_); refine goesL_ (some 45) rfl rfl Tryd.func22 (by kernel_rfl) rfl #[.int .u32 ((x4_1) % 4294967296)] rfl (by (try simp only [List.map_toArray, List.map_cons, List.map_nil]); first | done | rfl | (simp only [List.length_drop, List.length_take]; rfl)) ?_; (with_reducible refine (spec_HexText.calls k1 ((x4_1) % 4294967296) t331 _ A14.out).mono ?_); rintro e w' ⟨rfl, ⟨nd, rfl⟩⟩; refine ⟨_, rfl, ?_⟩))
            go_ret2
            exact ⟨by first | rfl | (simp; done) | (simp [*]; done) | (simp [bne]; done), by repeat (first | exact Drawn0.refl _ | apply Drawn0.step)⟩
  · replace c3 := Bool.eq_false_iff.mpr c3
    subst c3
    have H1 : (some (0, false)) = some (r1, r2) := by rw [if_neg (show ¬ (false = true) by decide)] at H; exact H
    clear H
    have H := H1
    clear H1
    simp only [Option.some.injEq, Prod.mk.injEq] at H
    obtain ⟨rfl, rfl⟩ := H
    go_enter Tryd.func55, Tryd.ntmps55
    go_wp2_with (first | ((with_reducible refine gate_callee (f := 83) rfl ?_); refine goesL_ (some 8) rfl rfl Tryd.func83 (by kernel_rfl) rfl #[.int .i64 (a0.size : Int), .int .i64 1, .int .i64 8] rfl (by (try simp only [List.map_toArray, List.map_cons, List.map_nil]); first | done | rfl | (simp only [List.length_drop, List.length_take]; rfl)) ?_; (with_reducible refine (spec_l01In.calls (a0.size : Int) 1 8 false _ A2.out).mono ?_); rintro e w' ⟨rfl, ⟨nd, rfl⟩⟩; refine ⟨_, rfl, ?_⟩))
    go_ret2
    exact ⟨by first | rfl | (simp; done) | (simp [*]; done) | (simp [bne]; done), by repeat (first | exact Drawn0.refl _ | apply Drawn0.step)⟩

end Go.Proofs.YtfjmpdcflnaogaaDoor.QFnExactReadItem
