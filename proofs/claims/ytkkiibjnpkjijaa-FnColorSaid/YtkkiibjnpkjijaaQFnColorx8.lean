/-
Plain functions for the Go functions that a law reaches, each with a proof that the translation's call comes to just that; no conditions beyond those written in each.
-/
import Derived.Test.YtkkiibjnpkjijaaSFnColor
import Derived.Test.YtkkiibjnpkjijaaQFnColorx2
namespace Go.Proofs.Ytkkiibjnpkjijaa.QFnColor
open Go.RowKit Go.Proofs.YtkkiibjnpkjijaaW.PrintWords Go.Proofs.YtkkiibjnpkjijaaW.PrintLast Go.Proofs.YtkkiibjnpkjijaaW.PrintMore
attribute [local go_sem] max2_int min2_int max_two min_two max_three min_three max_four min_four   -- for this text's walks alone
set_option linter.unusedVariables false
set_option linter.unusedSimpArgs false

/-- A state of type 97 at block g of W; what its slices lead to came in by w0. -/
def IsS97 (w0 W : World) (g : Nat) (f0 : List Int) (f1 : Int) (f2 : Int) : Prop := ∃ A0 c0, W.heap[g]? = some (.cells #[.slice A0 f0.length c0, .int .i64 f1, .int .i64 f2] 97 (0, 0)) ∧ w0.heap.size ≤ g ∧ Kd.C (Kd.int .u8) w0 A0 f0.length f0
theorem IsS97.grown {w0 W : World} {g : Nat} {f0 : List Int} {f1 : Int} {f2 : Int} {W1 : World} {row : Option Nat} (h : IsS97 w0 W g f0 f1 f2) (hw : W.grownBy W1 row) (hne : some g ≠ row) : IsS97 w0 W1 g f0 f1 f2 := by
 obtain ⟨A0, c0, hb, hg, hr0⟩ := h
 exact ⟨A0, c0, blk_grown hb hw hne, hg, hr0⟩
theorem IsS97.own_neN {w0 W : World} {g : Nat} {f0 : List Int} {f1 : Int} {f2 : Int} {α : Type} {d : Kd α} {e : Nat} {base : Nat} {ok : Nat → Prop} {v : Value} {xs : List α} (h : IsS97 w0 W g f0 f1 f2) (ho : Kd.N d e W base ok v xs) (ht : e ≠ 97) : some g ≠ v.ownBlock := by
 obtain ⟨A0, c0, hb, hg, hr0⟩ := h
 exact Kd.N_ne ho hb ht
theorem IsS97.fresh {w0 W : World} {g : Nat} {f0 : List Int} {f1 : Int} {f2 : Int} (h : IsS97 w0 W g f0 f1 f2) : ∀ k, W.heap.size ≤ k → k ≠ g := by
 obtain ⟨A0, c0, hb, hg, hr0⟩ := h
 exact Kd.freshB hb
theorem IsS97.kept {w0 W : World} {g : Nat} {f0 : List Int} {f1 : Int} {f2 : Int} {W1 : World} {S : Nat → Prop} (h : IsS97 w0 W g f0 f1 f2) (hk : Kept W W1 S) (hne : ¬ S g) : IsS97 w0 W1 g f0 f1 f2 := by
 obtain ⟨A0, c0, hb, hg, hr0⟩ := h
 exact ⟨A0, c0, blk_kept hb hk hne, hg, hr0⟩
theorem IsS97.below {w0 W : World} {g : Nat} {f0 : List Int} {f1 : Int} {f2 : Int} {W1 : World} (h : IsS97 w0 W g f0 f1 f2) (hw : Below W.heap.size W W1) : IsS97 w0 W1 g f0 f1 f2 := h.grown (grown_of_below hw none) (by simp)
theorem IsS97.alloc {w0 W : World} {g : Nat} {f0 : List Int} {f1 : Int} {f2 : Int} (h : IsS97 w0 W g f0 f1 f2) (o : Obj) : IsS97 w0 (W.alloc o) g f0 f1 f2 := h.below (below_alloc (Below.refl _ _) o)
theorem IsS97.drewN {w0 W : World} {g : Nat} {f0 : List Int} {f1 : Int} {f2 : Int} (h : IsS97 w0 W g f0 f1 f2) (m : Nat) : IsS97 w0 (W.drewN m) g f0 f1 f2 := h
theorem IsS97.drew {w0 W : World} {g : Nat} {f0 : List Int} {f1 : Int} {f2 : Int} (h : IsS97 w0 W g f0 f1 f2) : IsS97 w0 W.drew g f0 f1 f2 := h
theorem IsS97.at_ {w0 W : World} {g : Nat} {f0 : List Int} {f1 : Int} {f2 : Int} {w' : World} {m : Nat} (hq : W.drewN m = w') (h : IsS97 w0 W g f0 f1 f2) : IsS97 w0 w' g f0 f1 f2 := by subst hq; exact IsS97.drewN h m
theorem IsS97.apart {w0 W : World} {g : Nat} {f0 : List Int} {f1 : Int} {f2 : Int} {α : Type} {d : Kd α} {e : Nat} {base : Nat} {ok : Nat → Prop} {v : Value} {xs : List α} (h : IsS97 w0 W g f0 f1 f2) (ho : d.R e W base ok v xs) (ht : ∀ q, q ∈ e :: d.E → q ≠ 97) : d.R e W base (fun k => ok k ∧ k ≠ g) v xs := by
 obtain ⟨A0, c0, hb, hg, hr0⟩ := h
 exact Kd.R_types ho hb ht
theorem IsS97.own_ne {w0 W : World} {g : Nat} {f0 : List Int} {f1 : Int} {f2 : Int} {α : Type} {d : Kd α} {e : Nat} {base : Nat} {ok : Nat → Prop} {v : Value} {xs : List α} (h : IsS97 w0 W g f0 f1 f2) (ho : d.R e W base ok v xs) (ht : e ≠ 97) : some g ≠ v.ownBlock := by
 obtain ⟨A0, c0, hb, hg, hr0⟩ := h
 exact Kd.R_ne ho hb ht
theorem IsS97.apartQ {w0 W : World} {g : Nat} {f0 : List Int} {f1 : Int} {f2 : Int} {α : Type} {d : Kd α} {e : Nat} {base : Nat} {ok : Nat → Prop} {v : Value} {xs : List α} (h : IsS97 w0 W g f0 f1 f2) (ho : d.Q e W base ok v xs) (ht : ∀ q, q ∈ e :: d.E → q ≠ 97) : d.Q e W base (fun k => ok k ∧ k ≠ g) v xs := by
 obtain ⟨A0, c0, hb, hg, hr0⟩ := h
 exact Kd.Q_types ho hb ht
theorem IsS97.own_neQ {w0 W : World} {g : Nat} {f0 : List Int} {f1 : Int} {f2 : Int} {α : Type} {d : Kd α} {e : Nat} {base : Nat} {ok : Nat → Prop} {v : Value} {xs : List α} (h : IsS97 w0 W g f0 f1 f2) (ho : d.Q e W base ok v xs) (ht : e ≠ 97) : some g ≠ v.ownBlock := by
 obtain ⟨A0, c0, hb, hg, hr0⟩ := h
 exact Kd.Q_ne ho hb ht
theorem IsS97.apartS {w0 W : World} {g : Nat} {f0 : List Int} {f1 : Int} {f2 : Int} {α : Type} {d : Kd α} {e : Nat} {base : Nat} {ok : Nat → Prop} {v : Value} {xs : List α} (h : IsS97 w0 W g f0 f1 f2) (ho : d.S e W base ok v xs) (ht : ∀ q, q ∈ e :: d.E → q ≠ 97) : d.S e W base (fun k => ok k ∧ k ≠ g) v xs := by
 obtain ⟨A0, c0, hb, hg, hr0⟩ := h
 exact Kd.S_types ho hb ht
theorem IsS97.own_neS {w0 W : World} {g : Nat} {f0 : List Int} {f1 : Int} {f2 : Int} {α : Type} {d : Kd α} {e : Nat} {base : Nat} {ok : Nat → Prop} {v : Value} {xs : List α} (h : IsS97 w0 W g f0 f1 f2) (ho : d.S e W base ok v xs) (ht : e ≠ 97) : some g ≠ v.ownBlock := by
 obtain ⟨A0, c0, hb, hg, hr0⟩ := h
 exact Kd.S_ne ho hb ht
theorem IsS97.lt {w0 W : World} {g : Nat} {f0 : List Int} {f1 : Int} {f2 : Int} (h : IsS97 w0 W g f0 f1 f2) : g < W.heap.size := by
 obtain ⟨A0, c0, hb, hg, hr0⟩ := h
 exact blk_lt hb
theorem IsS97.ge {w0 W : World} {g : Nat} {f0 : List Int} {f1 : Int} {f2 : Int} (h : IsS97 w0 W g f0 f1 f2) : w0.heap.size ≤ g := by
 obtain ⟨A0, c0, hb, hg, hr0⟩ := h
 exact hg
theorem IsS97.ne_blk {w0 W : World} {g : Nat} {f0 : List Int} {f1 : Int} {f2 : Int} {a : Nat} {cs : Array Value} {t : TypeId} {fr : Nat × Nat} (h : IsS97 w0 W g f0 f1 f2) (hb2 : W.heap[a]? = some (.cells cs t fr)) (ht : t ≠ 97) : g ≠ a := by
 obtain ⟨A0, c0, hb, hg, hr0⟩ := h
 rintro rfl
 rw [hb] at hb2
 injection hb2 with hb2
 injection hb2 with _ ht2
 exact ht ht2.symm
theorem IsS97.far {w0 W : World} {g : Nat} {f0 : List Int} {f1 : Int} {f2 : Int} {p : Addr} (h : IsS97 w0 W g f0 f1 f2) (hne : g ≠ p.block) (u : Value) : IsS97 w0 (W.setCell p u) g f0 f1 f2 := by
 obtain ⟨A0, c0, hb, hg, hr0⟩ := h
 exact ⟨A0, c0, blk_far hb hne u, hg, hr0⟩
theorem cellS97_0 {W : World} {g : Nat} {A0 : Option Addr} {c0 : Nat} {f0 : List Int} {f1 : Int} {f2 : Int} (h : W.heap[g]? = some (.cells #[.slice A0 f0.length c0, .int .i64 f1, .int .i64 f2] 97 (0, 0))) : W.cell? ⟨g, 0, none⟩ = some (.slice A0 f0.length c0) := (blk_cell h 0).trans rfl
theorem cellS97_1 {W : World} {g : Nat} {A0 : Option Addr} {c0 : Nat} {f0 : List Int} {f1 : Int} {f2 : Int} (h : W.heap[g]? = some (.cells #[.slice A0 f0.length c0, .int .i64 f1, .int .i64 f2] 97 (0, 0))) : W.cell? ⟨g, 1, none⟩ = some (.int .i64 f1) := (blk_cell h 1).trans rfl
theorem IsS97.set_1 {w0 W : World} {g : Nat} {f0 : List Int} {f1 : Int} {f2 : Int} (h : IsS97 w0 W g f0 f1 f2) (x : Int) : IsS97 w0 (W.setCell ⟨g, 1, none⟩ (.int .i64 x)) g f0 x f2 := by
 obtain ⟨A0, c0, hb, hg, hr0⟩ := h
 exact ⟨A0, c0, by simpa using blk_set hb 1 (.int .i64 x), hg, hr0⟩
theorem cellS97_2 {W : World} {g : Nat} {A0 : Option Addr} {c0 : Nat} {f0 : List Int} {f1 : Int} {f2 : Int} (h : W.heap[g]? = some (.cells #[.slice A0 f0.length c0, .int .i64 f1, .int .i64 f2] 97 (0, 0))) : W.cell? ⟨g, 2, none⟩ = some (.int .i64 f2) := (blk_cell h 2).trans rfl
theorem IsS97.set_2 {w0 W : World} {g : Nat} {f0 : List Int} {f1 : Int} {f2 : Int} (h : IsS97 w0 W g f0 f1 f2) (x : Int) : IsS97 w0 (W.setCell ⟨g, 2, none⟩ (.int .i64 x)) g f0 f1 x := by
 obtain ⟨A0, c0, hb, hg, hr0⟩ := h
 exact ⟨A0, c0, by simpa using blk_set hb 2 (.int .i64 x), hg, hr0⟩
theorem IsS97.new (w0 W : World) (A0 : Option Addr) (c0 : Nat) (f0 : List Int) (f1 : Int) (f2 : Int) (hB : Below w0.heap.size w0 W) (hr0 : Kd.C (Kd.int .u8) w0 A0 f0.length f0) : IsS97 w0 (W.alloc (.cells #[.slice A0 f0.length c0, .int .i64 f1, .int .i64 f2] 97)) W.heap.size f0 f1 f2 := ⟨A0, c0, by simpa using heap_alloc_new W _, hB.size, hr0⟩

/-! ### spec_l01New: function 57 -/
def spec_l01New.l0 : Nat → List Int → Int → Int → Option (List Int × Int × Int)
 | 0, _, _, _ => none
 | k + 1, x0, x3, x4 => if x4 < (x0.length : Int) then (if x4 < 4000 then (if 0 ≤ x4 then (spec_l01New.l0 k x0 (Go.bits .and .i64 (wrap64 ((wrap64 ((wrap64 (x3 * 131)) + (wrap64 (rd x0 x4)))) + 7)) 1073741823) (wrap64 (x4 + 1))) else (none)) else (some (x0, 0, x3))) else (some (x0, 0, x3))
def spec_l01New.f (k : Nat) (l0 : List Int) : Option (List Int × Int × Int) := spec_l01New.l0 k l0 (wrap64 (711711 + (l0.length : Int))) 0
theorem spec_l01New.mono_l : ∀ k, (∀ y0 y1 y2, LeO (spec_l01New.l0 k y0 y1 y2) (spec_l01New.l0 (k + 1) y0 y1 y2))
 | 0 => fun _ _ _ r h => by simp [spec_l01New.l0] at h
 | k + 1 => by
  have ih0 := spec_l01New.mono_l k
  ·intro y0 y1 y2
   unfold spec_l01New.l0
   repeat' first
   | (with_reducible exact ih0 _ _ _)
   | (with_reducible exact LeO.refl _)
   | (with_reducible exact LeO.none _)
   | (with_reducible refine LeO.ite ?_ ?_)
   | (with_reducible refine LeO.bind ?_ (fun _ => ?_))
   | exact ih0 _ _ _
   | exact LeO.none _
   | refine LeO.ite ?_ ?_
   | refine LeO.bind ?_ (fun _ => ?_)
theorem spec_l01New.mono : ∀ a0 k, LeO (spec_l01New.f k a0) (spec_l01New.f (k + 1) a0) := by
 intro a0 k
 have ih0 := spec_l01New.mono_l k
 unfold spec_l01New.f
 repeat' first
   | (with_reducible exact ih0 _ _ _)
   | (with_reducible exact LeO.refl _)
   | (with_reducible exact LeO.none _)
   | (with_reducible refine LeO.ite ?_ ?_)
   | (with_reducible refine LeO.bind ?_ (fun _ => ?_))
   | exact ih0 _ _ _
   | exact LeO.none _
   | refine LeO.ite ?_ ?_
   | refine LeO.bind ?_ (fun _ => ?_)
set_option maxHeartbeats 8000000 in
set_option maxRecDepth 100000 in
theorem spec_l01New.calls (k : Nat) (A0 : Option Addr) (c0 : Nat) (l0 : List Int) (r1 : List Int) (r2 : Int) (r3 : Int) (w0 w : World) (hB : Below w0.heap.size w0 w) (hr0 : Kd.C (Kd.int .u8) w0 A0 l0.length l0) (hc0 : l0.length ≤ c0) (h : spec_l01New.f k l0 = some (r1, r2, r3)) :
  Calls Try.prog 57 #[.slice A0 l0.length c0] w fun e w' => ∃ g_ : Nat, e = .returned (.pointer (some ⟨g_, 0, none⟩)) ∧ IsS97 w0 w' g_ r1 r2 r3 ∧ Below w0.heap.size w0 w' ∧ Below w.heap.size w w' := by
 have hu97 := Try.underlying97
 have HR0 := Aside0.mk hr0
 have HC0 := Aside0.mk hc0
 clear hr0 hc0
 have HBW := Z (Below.refl w.heap.size w)
 have HW0 := Aside0.mk hB.size
 have HB := Aside0.mk hB
 clear hB
 have H : (spec_l01New.l0 k l0 (wrap64 (711711 + (l0.length : Int))) 0) = some (r1, r2, r3) := h
 clear h
 have H' := Aside0.mk H
 clear H
 go_enter Try.func57, Try.ntmps57
 go_wp2
 go_loopg [3, 4] k (fun kq v3 v4 w' => ∃ (x3_1 : Int) (x4_1 : Int), v3 = .int .i64 x3_1 ∧ v4 = .int .i64 x4_1 ∧ Aside0 (spec_l01New.l0 kq l0 x3_1 x4_1 = some (r1, r2, r3)) ∧ Aside0 (kq ≤ k) ∧ Aside0 (Below w.heap.size w w') ∧ Aside0 (Below w0.heap.size w0 w'))
 case atStart => exact ⟨(wrap64 (711711 + (l0.length : Int))), (0), Z2, Z2, H', ⟨Nat.le_refl _⟩, ⟨Z54⟩, ⟨Z47⟩⟩
 case round =>
  clear H'
  obtain ⟨x3_1, x4_1, rfl, rfl, HA, HK1, HBW, HB⟩ := hrel
  cases gk with
  | zero => exact absurd HA.out (by simp [spec_l01New.l0])
  | succ k1 =>
   have H := HA.out
   clear HA
   simp only [spec_l01New.l0] at H
   by_cases c2 : x4_1 < (l0.length : Int)
   ·rw [if_pos c2] at H
    have c2b0 : decide (x4_1 < (l0.length : Int)) = true := decide_eq_true c2
    clear c2
    by_cases c3 : x4_1 < 4000
    ·rw [if_pos c3] at H
     have c3b0 : decide (x4_1 < 4000) = true := decide_eq_true c3
     clear c3
     by_cases c4 : 0 ≤ x4_1
     ·rw [if_pos c4] at H
      have c4b0 : decide (0 ≤ x4_1) = true := decide_eq_true c4
      clear c4
      have H' := Aside0.mk H
      clear H
      have p300 : 0 ≤ (x4_1 : Int) := of_decide_eq_true Z10
      have q300 : x4_1 < (l0.length : Int) := of_decide_eq_true Z10
      obtain ⟨ad300, e300, hx300_0⟩ := Kd.at_int HR0.out x4_1 p300 q300
      cases e300
      replace hx300_0 := pw_cell_below HB.out hx300_0
      replace p300 := eq_true p300
      replace q300 := eq_true q300
      go_wp2
      go_roundg k1
      case measure => have := HK1.out; omega
      case rel => exact ⟨(Go.bits .and .i64 (wrap64 ((wrap64 ((wrap64 (x3_1 * 131)) + (wrap64 (rd l0 x4_1)))) + 7)) 1073741823), (wrap64 (x4_1 + 1)), Z2, Z2, H', ⟨Z11⟩, ⟨Z54⟩, ⟨Z47⟩⟩
     ·rw [if_neg c4] at H
      exact absurd H (by simp)
    ·rw [if_neg c3] at H
     have c3b0 : decide (x4_1 < 4000) = false := decide_eq_false c3
     clear c3
     simp only [Option.some.injEq, Prod.mk.injEq] at H
     obtain ⟨rfl, rfl, rfl⟩ := H
     go_wp2_with (first | ((with_reducible refine gate_dst (N := 31) rfl ?_); refine box_event (by rfl) (N := 31) (by rfl) (cs := #[.slice A0 l0.length c0, .int .i64 0, .int .i64 x3_1]) (t := 97) Z5 ?_; intro gb301 hg w5 hbox hb; replace HB := Z (below_step Z47 hb); have BK301 := Z (hbox); have GW301 := Z ((Z68 : w.heap.size ≤ gb301)); have GE301 := Z ((Nat.le_trans HW0.out (Z68 : w.heap.size ≤ gb301) : w0.heap.size ≤ gb301)); replace HBW := Z (below_step HBW.out hb); clear hb hbox hg))
     go_ret
     exact ⟨_, rfl, (show IsS97 w0 _ gb301 l0 0 x3_1 from ⟨_, _, (Z13 BK301), GE301.out, HR0.out⟩), Z47, by repeat (first | (with_reducible first | exact HBW.out | apply below_alloc | apply pw_below_drewN | apply below_drew1 | refine below_set ?_ GW301.out) | exact HBW.out)⟩
   ·rw [if_neg c2] at H
    have c2b0 : decide (x4_1 < (l0.length : Int)) = false := decide_eq_false c2
    clear c2
    simp only [Option.some.injEq, Prod.mk.injEq] at H
    obtain ⟨rfl, rfl, rfl⟩ := H
    go_wp2_with (first | ((with_reducible refine gate_dst (N := 31) rfl ?_); refine box_event (by rfl) (N := 31) (by rfl) (cs := #[.slice A0 l0.length c0, .int .i64 0, .int .i64 x3_1]) (t := 97) Z5 ?_; intro gb302 hg w6 hbox hb; replace HB := Z (below_step Z47 hb); have BK302 := Z (hbox); have GW302 := Z ((Z68 : w.heap.size ≤ gb302)); have GE302 := Z ((Nat.le_trans HW0.out (Z68 : w.heap.size ≤ gb302) : w0.heap.size ≤ gb302)); replace HBW := Z (below_step HBW.out hb); clear hb hbox hg))
    go_ret
    exact ⟨_, rfl, (show IsS97 w0 _ gb302 l0 0 x3_1 from ⟨_, _, (Z13 BK302), GE302.out, HR0.out⟩), Z47, by repeat (first | (with_reducible first | exact HBW.out | apply below_alloc | apply pw_below_drewN | apply below_drew1 | refine below_set ?_ GW302.out) | exact HBW.out)⟩

/-! ### spec_l01Byte: function 99 -/
def spec_l01Byte.f (s0_0 : List Int) (s0_1 : Int) (s0_2 : Int) : Option (Int × Int × Int) := if s0_1 < (s0_0.length : Int) then (if 0 ≤ s0_1 then (some (Go.bits .and .i64 (wrap64 ((Go.bits .and .i64 (Go.bits .xor .i64 ((wrap64 ((wrap64 (s0_2 * 6364136223846793005)) + 1442695040888963407)) / 8589934592) ((wrap64 ((wrap64 (s0_2 * 6364136223846793005)) + 1442695040888963407)) / 35184372088832)) 255) + (wrap64 (rd s0_0 s0_1)))) 255, wrap64 (s0_1 + 1), wrap64 ((wrap64 (s0_2 * 6364136223846793005)) + 1442695040888963407))) else (none)) else (some (Go.bits .and .i64 (Go.bits .xor .i64 ((wrap64 ((wrap64 (s0_2 * 6364136223846793005)) + 1442695040888963407)) / 8589934592) ((wrap64 ((wrap64 (s0_2 * 6364136223846793005)) + 1442695040888963407)) / 35184372088832)) 255, s0_1, wrap64 ((wrap64 (s0_2 * 6364136223846793005)) + 1442695040888963407)))
set_option maxHeartbeats 8000000 in
set_option maxRecDepth 100000 in
theorem spec_l01Byte.calls (g : Nat) (s0_0 : List Int) (s0_1 : Int) (s0_2 : Int) (r1 : Int) (r2 : Int) (r3 : Int) (w0 w : World) (hI : IsS97 w0 w g s0_0 s0_1 s0_2) (hB : Below w0.heap.size w0 w) (h : spec_l01Byte.f s0_0 s0_1 s0_2 = some (r1, r2, r3)) :
  Calls Try.prog 99 #[.pointer (some ⟨g, 0, none⟩)] w fun e w' => e = .returned (.int .i64 r1) ∧ IsS97 w0 w' g s0_0 r2 r3 ∧ Below w0.heap.size w0 w' ∧ KeepBut w w' g none := by
 have HI0 := Aside0.mk hI
 have HK := Z (KeepBut.refl w g none)
 have HL := Aside0.mk hB.size
 clear hI
 have HW0 := Aside0.mk hB.size
 have HB := Aside0.mk hB
 clear hB
 have H : (if s0_1 < (s0_0.length : Int) then (if 0 ≤ s0_1 then (some (Go.bits .and .i64 (wrap64 ((Go.bits .and .i64 (Go.bits .xor .i64 ((wrap64 ((wrap64 (s0_2 * 6364136223846793005)) + 1442695040888963407)) / 8589934592) ((wrap64 ((wrap64 (s0_2 * 6364136223846793005)) + 1442695040888963407)) / 35184372088832)) 255) + (wrap64 (rd s0_0 s0_1)))) 255, wrap64 (s0_1 + 1), wrap64 ((wrap64 (s0_2 * 6364136223846793005)) + 1442695040888963407))) else (none)) else (some (Go.bits .and .i64 (Go.bits .xor .i64 ((wrap64 ((wrap64 (s0_2 * 6364136223846793005)) + 1442695040888963407)) / 8589934592) ((wrap64 ((wrap64 (s0_2 * 6364136223846793005)) + 1442695040888963407)) / 35184372088832)) 255, s0_1, wrap64 ((wrap64 (s0_2 * 6364136223846793005)) + 1442695040888963407)))) = some (r1, r2, r3) := h
 clear h
 by_cases c2 : s0_1 < (s0_0.length : Int)
 ·rw [if_pos c2] at H
  have c2b0 : decide (s0_1 < (s0_0.length : Int)) = true := decide_eq_true c2
  clear c2
  by_cases c3 : 0 ≤ s0_1
  ·rw [if_pos c3] at H
   have c3b0 : decide (0 ≤ s0_1) = true := decide_eq_true c3
   clear c3
   simp only [Option.some.injEq, Prod.mk.injEq] at H
   obtain ⟨rfl, rfl, rfl⟩ := H
   obtain ⟨ASz4_0, cSz4_0, HGz4, hgz4, HSz4_0⟩ := HI0.out
   have hcz4_0 := cellS97_0 HGz4
   have hcz4_1 := cellS97_1 HGz4
   have hcz4_2 := cellS97_2 HGz4
   have hfz4_1 := blk_frozen HGz4 1
   have hfz4_2 := blk_frozen HGz4 2
   clear HGz4 hgz4
   have p303 : 0 ≤ (s0_1 : Int) := of_decide_eq_true Z10
   have q303 : s0_1 < (s0_0.length : Int) := of_decide_eq_true Z10
   obtain ⟨ad303, e303, hx303_0⟩ := Kd.at_int HSz4_0 s0_1 p303 q303
   cases e303
   have hn303_0 : ad303.block ≠ g := Nat.ne_of_lt (Nat.lt_of_lt_of_le (by have := World.block_lt_of_cell? _ _ hx303_0; first | rwa [add_block] at this | exact this) (IsS97.ge HI0.out))
   replace hx303_0 := pw_cell_below HB.out hx303_0
   replace hx303_0 := (cell_far (p := ⟨g, 2, none⟩) (by first | (rw [add_block]; exact hn303_0) | (show (Addr.add _ _).block ≠ _; rw [add_block]; exact hn303_0) | exact hn303_0) (.int .i64 (wrap64 ((wrap64 (s0_2 * 6364136223846793005)) + 1442695040888963407)))).trans hx303_0
   (try have hy303_0 := fun (n_ : Nat) => (show (((w.drewN n_).setCell ⟨g, 2, none⟩ (.int .i64 (wrap64 ((wrap64 (s0_2 * 6364136223846793005)) + 1442695040888963407))))).cell? _ = some _ from hx303_0))
   clear hn303_0
   replace p303 := eq_true p303
   replace q303 := eq_true q303
   go_enter Try.func99, Try.ntmps99
   go_wp2
   repeat (go_quiet (fail); try go_wp2)
   go_ret
   exact ⟨Z7, Z55, Z56, Z57⟩
  ·rw [if_neg c3] at H
   exact absurd H (by simp)
 ·rw [if_neg c2] at H
  have c2b0 : decide (s0_1 < (s0_0.length : Int)) = false := decide_eq_false c2
  clear c2
  simp only [Option.some.injEq, Prod.mk.injEq] at H
  obtain ⟨rfl, rfl, rfl⟩ := H
  obtain ⟨ASz5_0, cSz5_0, HGz5, hgz5, HSz5_0⟩ := HI0.out
  have hcz5_0 := cellS97_0 HGz5
  have hcz5_1 := cellS97_1 HGz5
  have hcz5_2 := cellS97_2 HGz5
  have hfz5_1 := blk_frozen HGz5 1
  have hfz5_2 := blk_frozen HGz5 2
  clear HGz5 hgz5
  go_enter Try.func99, Try.ntmps99
  go_wp2
  repeat (go_quiet (fail); try go_wp2)
  go_ret
  exact ⟨Z7, Z55, Z56, Z57⟩

/-! ### spec_l01Below: function 73 -/
def spec_l01Below.f (s0_0 : List Int) (s0_1 : Int) (s0_2 : Int) (a1 : Int) : Option (Int × Int × Int) := if a1 ≤ 0 then (some (0, s0_1, s0_2)) else (if a1 ≤ 256 then ((spec_l01Byte.f s0_0 s0_1 s0_2).bind fun bt304 => (if a1 = 0 then (none) else (some (Int.tmod bt304.1 a1, bt304.2.1, bt304.2.2)))) else ((spec_l01Byte.f s0_0 s0_1 s0_2).bind fun bt307 => ((spec_l01Byte.f s0_0 bt307.2.1 bt307.2.2).bind fun bt310 => ((spec_l01Byte.f s0_0 bt310.2.1 bt310.2.2).bind fun bt313 => ((spec_l01Byte.f s0_0 bt313.2.1 bt313.2.2).bind fun bt316 => (if a1 = 0 then (none) else (some (Int.tmod (wrap64 ((wrap64 ((wrap64 ((wrap64 (bt307.1 * 16777216)) + (wrap64 (bt310.1 * 65536)))) + (wrap64 (bt313.1 * 256)))) + bt316.1)) a1, bt316.2.1, bt316.2.2))))))))
set_option maxHeartbeats 8000000 in
set_option maxRecDepth 100000 in
theorem spec_l01Below.calls (g : Nat) (s0_0 : List Int) (s0_1 : Int) (s0_2 : Int) (a1 : Int) (r1 : Int) (r2 : Int) (r3 : Int) (w0 w : World) (hI : IsS97 w0 w g s0_0 s0_1 s0_2) (hB : Below w0.heap.size w0 w) (h : spec_l01Below.f s0_0 s0_1 s0_2 a1 = some (r1, r2, r3)) :
  Calls Try.prog 73 #[.pointer (some ⟨g, 0, none⟩), .int .i64 a1] w fun e w' => e = .returned (.int .i64 r1) ∧ IsS97 w0 w' g s0_0 r2 r3 ∧ Below w0.heap.size w0 w' ∧ KeepBut w w' g none := by
 have HI0 := Aside0.mk hI
 have HK := Z (KeepBut.refl w g none)
 have HL := Aside0.mk hB.size
 clear hI
 have HW0 := Aside0.mk hB.size
 have HB := Aside0.mk hB
 clear hB
 have H : (if a1 ≤ 0 then (some (0, s0_1, s0_2)) else (if a1 ≤ 256 then ((spec_l01Byte.f s0_0 s0_1 s0_2).bind fun bt304 => (if a1 = 0 then (none) else (some (Int.tmod bt304.1 a1, bt304.2.1, bt304.2.2)))) else ((spec_l01Byte.f s0_0 s0_1 s0_2).bind fun bt307 => ((spec_l01Byte.f s0_0 bt307.2.1 bt307.2.2).bind fun bt310 => ((spec_l01Byte.f s0_0 bt310.2.1 bt310.2.2).bind fun bt313 => ((spec_l01Byte.f s0_0 bt313.2.1 bt313.2.2).bind fun bt316 => (if a1 = 0 then (none) else (some (Int.tmod (wrap64 ((wrap64 ((wrap64 ((wrap64 (bt307.1 * 16777216)) + (wrap64 (bt310.1 * 65536)))) + (wrap64 (bt313.1 * 256)))) + bt316.1)) a1, bt316.2.1, bt316.2.2))))))))) = some (r1, r2, r3) := h
 clear h
 by_cases c3 : a1 ≤ 0
 ·rw [if_pos c3] at H
  have c3b0 : decide (a1 ≤ 0) = true := decide_eq_true c3
  clear c3
  simp only [Option.some.injEq, Prod.mk.injEq] at H
  obtain ⟨rfl, rfl, rfl⟩ := H
  go_enter Try.func73, Try.ntmps73
  go_wp2
  go_ret
  exact ⟨Z7, Z55, Z56, Z57⟩
 ·rw [if_neg c3] at H
  have c3b0 : decide (a1 ≤ 0) = false := decide_eq_false c3
  clear c3
  by_cases c4 : a1 ≤ 256
  ·rw [if_pos c4] at H
   have c4b0 : decide (a1 ≤ 256) = true := decide_eq_true c4
   clear c4
   replace H := Option.bind_eq_some_iff.mp H
   obtain ⟨⟨t304, t305, t306⟩, A50, H⟩ := H
   replace H : (if a1 = 0 then (none) else (some (Int.tmod t304 a1, t305, t306))) = some (r1, r2, r3) := H
   have A5 := Aside0.mk A50
   clear A50
   by_cases c6 : a1 = 0
   ·rw [if_pos c6] at H
    exact absurd H (by simp)
   ·rw [if_neg c6] at H
    have c6b0 : (a1 == 0) = false := beq_eq_false_iff_ne.mpr c6
    have c6b1 : (a1 != 0) = true := bne_iff_ne.mpr c6
    simp only [Option.some.injEq, Prod.mk.injEq] at H
    obtain ⟨rfl, rfl, rfl⟩ := H
    go_enter Try.func73, Try.ntmps73
    go_wp2_with (first | ((with_reducible refine gate_callee (f := 99) rfl ?_); refine goesL_ (some 14) rfl rfl Try.func99 Z0 rfl #[.pointer (some ⟨g, 0, none⟩)] rfl Z9 ?_; (with_reducible refine (spec_l01Byte.calls g s0_0 s0_1 s0_2 t304 t305 t306 w0 _ ?side1 ?side2 A5.out).mono ?_); (case side1 => exact Z55); (case side2 => exact Z56); rintro e w7 ⟨rfl, hi, hb, hk⟩; refine ⟨_, rfl, ?_⟩; replace HK := Z (KeepBut.trans Z57 hk (.inl rfl)); replace HB := Z (hb); replace HI0 := Z (hi); (try clear hb); (try clear hb2); (try clear hk); (try clear hi)))
    go_ret
    exact ⟨Z7, Z55, Z56, Z57⟩
  ·rw [if_neg c4] at H
   have c4b0 : decide (a1 ≤ 256) = false := decide_eq_false c4
   clear c4
   replace H := Option.bind_eq_some_iff.mp H
   obtain ⟨⟨t307, t308, t309⟩, A80, H⟩ := H
   replace H : ((spec_l01Byte.f s0_0 t308 t309).bind fun bt310 => ((spec_l01Byte.f s0_0 bt310.2.1 bt310.2.2).bind fun bt313 => ((spec_l01Byte.f s0_0 bt313.2.1 bt313.2.2).bind fun bt316 => (if a1 = 0 then (none) else (some (Int.tmod (wrap64 ((wrap64 ((wrap64 ((wrap64 (t307 * 16777216)) + (wrap64 (bt310.1 * 65536)))) + (wrap64 (bt313.1 * 256)))) + bt316.1)) a1, bt316.2.1, bt316.2.2)))))) = some (r1, r2, r3) := H
   have A8 := Aside0.mk A80
   clear A80
   replace H := Option.bind_eq_some_iff.mp H
   obtain ⟨⟨t310, t311, t312⟩, A90, H⟩ := H
   replace H : ((spec_l01Byte.f s0_0 t311 t312).bind fun bt313 => ((spec_l01Byte.f s0_0 bt313.2.1 bt313.2.2).bind fun bt316 => (if a1 = 0 then (none) else (some (Int.tmod (wrap64 ((wrap64 ((wrap64 ((wrap64 (t307 * 16777216)) + (wrap64 (t310 * 65536)))) + (wrap64 (bt313.1 * 256)))) + bt316.1)) a1, bt316.2.1, bt316.2.2))))) = some (r1, r2, r3) := H
   have A9 := Aside0.mk A90
   clear A90
   replace H := Option.bind_eq_some_iff.mp H
   obtain ⟨⟨t313, t314, t315⟩, A100, H⟩ := H
   replace H : ((spec_l01Byte.f s0_0 t314 t315).bind fun bt316 => (if a1 = 0 then (none) else (some (Int.tmod (wrap64 ((wrap64 ((wrap64 ((wrap64 (t307 * 16777216)) + (wrap64 (t310 * 65536)))) + (wrap64 (t313 * 256)))) + bt316.1)) a1, bt316.2.1, bt316.2.2)))) = some (r1, r2, r3) := H
   have A10 := Aside0.mk A100
   clear A100
   replace H := Option.bind_eq_some_iff.mp H
   obtain ⟨⟨t316, t317, t318⟩, A110, H⟩ := H
   replace H : (if a1 = 0 then (none) else (some (Int.tmod (wrap64 ((wrap64 ((wrap64 ((wrap64 (t307 * 16777216)) + (wrap64 (t310 * 65536)))) + (wrap64 (t313 * 256)))) + t316)) a1, t317, t318))) = some (r1, r2, r3) := H
   have A11 := Aside0.mk A110
   clear A110
   by_cases c12 : a1 = 0
   ·rw [if_pos c12] at H
    exact absurd H (by simp)
   ·rw [if_neg c12] at H
    have c12b0 : (a1 == 0) = false := beq_eq_false_iff_ne.mpr c12
    have c12b1 : (a1 != 0) = true := bne_iff_ne.mpr c12
    simp only [Option.some.injEq, Prod.mk.injEq] at H
    obtain ⟨rfl, rfl, rfl⟩ := H
    go_enter Try.func73, Try.ntmps73
    go_wp2_with (first | ((with_reducible refine gate_callee (f := 99) rfl ?_); refine goesL_ (some 18) rfl rfl Try.func99 Z0 rfl #[.pointer (some ⟨g, 0, none⟩)] rfl Z9 ?_; (with_reducible refine (spec_l01Byte.calls g s0_0 s0_1 s0_2 t307 t308 t309 w0 _ ?side1 ?side2 A8.out).mono ?_); (case side1 => exact Z55); (case side2 => exact Z56); rintro e w13 ⟨rfl, hi, hb, hk⟩; refine ⟨_, rfl, ?_⟩; replace HK := Z (KeepBut.trans Z57 hk (.inl rfl)); replace HB := Z (hb); replace HI0 := Z (hi); (try clear hb); (try clear hb2); (try clear hk); (try clear hi)) | ((with_reducible refine gate_callee (f := 99) rfl ?_); refine goesL_ (some 20) rfl rfl Try.func99 Z0 rfl #[.pointer (some ⟨g, 0, none⟩)] rfl Z9 ?_; (with_reducible refine (spec_l01Byte.calls g s0_0 t308 t309 t310 t311 t312 w0 _ ?side1 ?side2 A9.out).mono ?_); (case side1 => exact Z55); (case side2 => exact Z56); rintro e w14 ⟨rfl, hi, hb, hk⟩; refine ⟨_, rfl, ?_⟩; replace HK := Z (KeepBut.trans Z57 hk (.inl rfl)); replace HB := Z (hb); replace HI0 := Z (hi); (try clear hb); (try clear hb2); (try clear hk); (try clear hi)) | ((with_reducible refine gate_callee (f := 99) rfl ?_); refine goesL_ (some 22) rfl rfl Try.func99 Z0 rfl #[.pointer (some ⟨g, 0, none⟩)] rfl Z9 ?_; (with_reducible refine (spec_l01Byte.calls g s0_0 t311 t312 t313 t314 t315 w0 _ ?side1 ?side2 A10.out).mono ?_); (case side1 => exact Z55); (case side2 => exact Z56); rintro e w15 ⟨rfl, hi, hb, hk⟩; refine ⟨_, rfl, ?_⟩; replace HK := Z (KeepBut.trans Z57 hk (.inl rfl)); replace HB := Z (hb); replace HI0 := Z (hi); (try clear hb); (try clear hb2); (try clear hk); (try clear hi)) | ((with_reducible refine gate_callee (f := 99) rfl ?_); refine goesL_ (some 24) rfl rfl Try.func99 Z0 rfl #[.pointer (some ⟨g, 0, none⟩)] rfl Z9 ?_; (with_reducible refine (spec_l01Byte.calls g s0_0 t314 t315 t316 t317 t318 w0 _ ?side1 ?side2 A11.out).mono ?_); (case side1 => exact Z55); (case side2 => exact Z56); rintro e w16 ⟨rfl, hi, hb, hk⟩; refine ⟨_, rfl, ?_⟩; replace HK := Z (KeepBut.trans Z57 hk (.inl rfl)); replace HB := Z (hb); replace HI0 := Z (hi); (try clear hb); (try clear hb2); (try clear hk); (try clear hi)))
    go_ret
    exact ⟨Z7, Z55, Z56, Z57⟩

/-! ### spec_l01Once: function 87 -/
def spec_l01Once.f (s0_0 : List Int) (s0_1 : Int) (s0_2 : Int) (a1 : Int) : Option (Bool × Int × Int) := (spec_l01Below.f s0_0 s0_1 s0_2 a1).bind fun bt319 => (some ((bt319.1 == 0), bt319.2.1, bt319.2.2))
set_option maxHeartbeats 8000000 in
set_option maxRecDepth 100000 in
theorem spec_l01Once.calls (g : Nat) (s0_0 : List Int) (s0_1 : Int) (s0_2 : Int) (a1 : Int) (r1 : Bool) (r2 : Int) (r3 : Int) (w0 w : World) (hI : IsS97 w0 w g s0_0 s0_1 s0_2) (hB : Below w0.heap.size w0 w) (h : spec_l01Once.f s0_0 s0_1 s0_2 a1 = some (r1, r2, r3)) :
  Calls Try.prog 87 #[.pointer (some ⟨g, 0, none⟩), .int .i64 a1] w fun e w' => e = .returned (.bool r1) ∧ IsS97 w0 w' g s0_0 r2 r3 ∧ Below w0.heap.size w0 w' ∧ KeepBut w w' g none := by
 have HI0 := Aside0.mk hI
 have HK := Z (KeepBut.refl w g none)
 have HL := Aside0.mk hB.size
 clear hI
 have HW0 := Aside0.mk hB.size
 have HB := Aside0.mk hB
 clear hB
 have H : ((spec_l01Below.f s0_0 s0_1 s0_2 a1).bind fun bt319 => (some ((bt319.1 == 0), bt319.2.1, bt319.2.2))) = some (r1, r2, r3) := h
 clear h
 replace H := Option.bind_eq_some_iff.mp H
 obtain ⟨⟨t319, t320, t321⟩, A30, H⟩ := H
 replace H : (some ((t319 == 0), t320, t321)) = some (r1, r2, r3) := H
 have A3 := Aside0.mk A30
 clear A30
 simp only [Option.some.injEq, Prod.mk.injEq] at H
 obtain ⟨rfl, rfl, rfl⟩ := H
 go_enter Try.func87, Try.ntmps87
 go_wp2_with (first | ((with_reducible refine gate_callee (f := 73) rfl ?_); refine goesL_ (some 7) rfl rfl Try.func73 Z0 rfl #[.pointer (some ⟨g, 0, none⟩), .int .i64 a1] rfl Z9 ?_; (with_reducible refine (spec_l01Below.calls g s0_0 s0_1 s0_2 a1 t319 t320 t321 w0 _ ?side1 ?side2 A3.out).mono ?_); (case side1 => exact Z55); (case side2 => exact Z56); rintro e w4 ⟨rfl, hi, hb, hk⟩; refine ⟨_, rfl, ?_⟩; replace HK := Z (KeepBut.trans Z57 hk (.inl rfl)); replace HB := Z (hb); replace HI0 := Z (hi); (try clear hb); (try clear hb2); (try clear hk); (try clear hi)))
 go_ret
 exact ⟨Z7, Z55, Z56, Z57⟩

/-! ### spec_l01Pick: function 105 -/
def spec_l01Pick.f (s0_0 : List Int) (s0_1 : Int) (s0_2 : Int) (l1 : List ByteArray) : Option (ByteArray × Int × Int) := (spec_l01Below.f s0_0 s0_1 s0_2 (l1.length : Int)).bind fun bt322 => (if 0 ≤ bt322.1 then (if bt322.1 < (l1.length : Int) then (some (rdOf ByteArray.empty l1 bt322.1, bt322.2.1, bt322.2.2)) else (none)) else (none))
set_option maxHeartbeats 8000000 in
set_option maxRecDepth 100000 in
theorem spec_l01Pick.calls (g : Nat) (s0_0 : List Int) (s0_1 : Int) (s0_2 : Int) (A1 : Option Addr) (c1 : Nat) (l1 : List ByteArray) (r1 : ByteArray) (r2 : Int) (r3 : Int) (w0 w : World) (hI : IsS97 w0 w g s0_0 s0_1 s0_2) (hB : Below w0.heap.size w0 w) (hr1 : Kd.C Kd.string w A1 l1.length l1) (hc1 : l1.length ≤ c1) (hf1 : ∀ ad, A1 = some ad → 0 < l1.length → ad.block ≠ g) (h : spec_l01Pick.f s0_0 s0_1 s0_2 l1 = some (r1, r2, r3)) :
  Calls Try.prog 105 #[.pointer (some ⟨g, 0, none⟩), .slice A1 l1.length c1] w fun e w' => e = .returned (.string r1) ∧ IsS97 w0 w' g s0_0 r2 r3 ∧ Below w0.heap.size w0 w' ∧ KeepBut w w' g none := by
 have HR1 := Aside0.mk hr1
 have HC1 := Aside0.mk hc1
 clear hr1 hc1
 have HI0 := Aside0.mk hI
 have HK := Z (KeepBut.refl w g none)
 have HL := Aside0.mk hB.size
 clear hI
 have HW0 := Aside0.mk hB.size
 have HB := Aside0.mk hB
 clear hB
 have H : ((spec_l01Below.f s0_0 s0_1 s0_2 (l1.length : Int)).bind fun bt322 => (if 0 ≤ bt322.1 then (if bt322.1 < (l1.length : Int) then (some (rdOf ByteArray.empty l1 bt322.1, bt322.2.1, bt322.2.2)) else (none)) else (none))) = some (r1, r2, r3) := h
 clear h
 replace H := Option.bind_eq_some_iff.mp H
 obtain ⟨⟨t322, t323, t324⟩, A30, H⟩ := H
 replace H : (if 0 ≤ t322 then (if t322 < (l1.length : Int) then (some (rdOf ByteArray.empty l1 t322, t323, t324)) else (none)) else (none)) = some (r1, r2, r3) := H
 have A3 := Aside0.mk A30
 clear A30
 by_cases c4 : 0 ≤ t322
 ·rw [if_pos c4] at H
  have c4b0 : decide (0 ≤ t322) = true := decide_eq_true c4
  clear c4
  by_cases c5 : t322 < (l1.length : Int)
  ·rw [if_pos c5] at H
   have c5b0 : decide (t322 < (l1.length : Int)) = true := decide_eq_true c5
   clear c5
   simp only [Option.some.injEq, Prod.mk.injEq] at H
   obtain ⟨rfl, rfl, rfl⟩ := H
   go_enter Try.func105, Try.ntmps105
   go_wp2_with (first | ((with_reducible refine gate_callee (f := 73) rfl ?_); refine goesL_ (some 9) rfl rfl Try.func73 Z0 rfl #[.pointer (some ⟨g, 0, none⟩), .int .i64 (l1.length : Int)] rfl Z9 ?_; (with_reducible refine (spec_l01Below.calls g s0_0 s0_1 s0_2 (l1.length : Int) t322 t323 t324 w0 _ ?side1 ?side2 A3.out).mono ?_); (case side1 => exact Z55); (case side2 => exact Z56); rintro e w6 ⟨rfl, hi, hb, hk⟩; refine ⟨_, rfl, ?_⟩; replace HK := Z (KeepBut.trans Z57 hk (.inl rfl)); replace HB := Z (hb); replace HI0 := Z (hi); (try clear hb); (try clear hb2); (try clear hk); (try clear hi); have p325 : 0 ≤ (t322 : Int) := of_decide_eq_true Z10; have q325 : t322 < (l1.length : Int) := of_decide_eq_true Z10; obtain ⟨ad325, e325, hx325_0⟩ := Kd.at_string HR1.out t322 p325 q325; cases e325; replace hx325_0 := keep_cell HK.out hx325_0 (by first | (rw [add_block]; exact hf1 _ rfl (by omega)) | exact hf1 _ rfl (by omega) | exact hf1 ad325 rfl (by omega)); replace p325 := eq_true p325; replace q325 := eq_true q325))
   go_ret
   exact ⟨Z7, Z55, Z56, Z57⟩
  ·rw [if_neg c5] at H
   exact absurd H (by simp)
 ·rw [if_neg c4] at H
  exact absurd H (by simp)

/-! ### spec_l01PickInt: function 86 -/
def spec_l01PickInt.f (s0_0 : List Int) (s0_1 : Int) (s0_2 : Int) (l1 : List Int) : Option (Int × Int × Int) := (spec_l01Below.f s0_0 s0_1 s0_2 (l1.length : Int)).bind fun bt326 => (if 0 ≤ bt326.1 then (if bt326.1 < (l1.length : Int) then (some (rd l1 bt326.1, bt326.2.1, bt326.2.2)) else (none)) else (none))
set_option maxHeartbeats 8000000 in
set_option maxRecDepth 100000 in
theorem spec_l01PickInt.calls (g : Nat) (s0_0 : List Int) (s0_1 : Int) (s0_2 : Int) (A1 : Option Addr) (c1 : Nat) (l1 : List Int) (r1 : Int) (r2 : Int) (r3 : Int) (w0 w : World) (hI : IsS97 w0 w g s0_0 s0_1 s0_2) (hB : Below w0.heap.size w0 w) (hr1 : Kd.C (Kd.int .i64) w A1 l1.length l1) (hc1 : l1.length ≤ c1) (hf1 : ∀ ad, A1 = some ad → 0 < l1.length → ad.block ≠ g) (h : spec_l01PickInt.f s0_0 s0_1 s0_2 l1 = some (r1, r2, r3)) :
  Calls Try.prog 86 #[.pointer (some ⟨g, 0, none⟩), .slice A1 l1.length c1] w fun e w' => e = .returned (.int .i64 r1) ∧ IsS97 w0 w' g s0_0 r2 r3 ∧ Below w0.heap.size w0 w' ∧ KeepBut w w' g none := by
 have HR1 := Aside0.mk hr1
 have HC1 := Aside0.mk hc1
 clear hr1 hc1
 have HI0 := Aside0.mk hI
 have HK := Z (KeepBut.refl w g none)
 have HL := Aside0.mk hB.size
 clear hI
 have HW0 := Aside0.mk hB.size
 have HB := Aside0.mk hB
 clear hB
 have H : ((spec_l01Below.f s0_0 s0_1 s0_2 (l1.length : Int)).bind fun bt326 => (if 0 ≤ bt326.1 then (if bt326.1 < (l1.length : Int) then (some (rd l1 bt326.1, bt326.2.1, bt326.2.2)) else (none)) else (none))) = some (r1, r2, r3) := h
 clear h
 replace H := Option.bind_eq_some_iff.mp H
 obtain ⟨⟨t326, t327, t328⟩, A30, H⟩ := H
 replace H : (if 0 ≤ t326 then (if t326 < (l1.length : Int) then (some (rd l1 t326, t327, t328)) else (none)) else (none)) = some (r1, r2, r3) := H
 have A3 := Aside0.mk A30
 clear A30
 by_cases c4 : 0 ≤ t326
 ·rw [if_pos c4] at H
  have c4b0 : decide (0 ≤ t326) = true := decide_eq_true c4
  clear c4
  by_cases c5 : t326 < (l1.length : Int)
  ·rw [if_pos c5] at H
   have c5b0 : decide (t326 < (l1.length : Int)) = true := decide_eq_true c5
   clear c5
   simp only [Option.some.injEq, Prod.mk.injEq] at H
   obtain ⟨rfl, rfl, rfl⟩ := H
   go_enter Try.func86, Try.ntmps86
   go_wp2_with (first | ((with_reducible refine gate_callee (f := 73) rfl ?_); refine goesL_ (some 9) rfl rfl Try.func73 Z0 rfl #[.pointer (some ⟨g, 0, none⟩), .int .i64 (l1.length : Int)] rfl Z9 ?_; (with_reducible refine (spec_l01Below.calls g s0_0 s0_1 s0_2 (l1.length : Int) t326 t327 t328 w0 _ ?side1 ?side2 A3.out).mono ?_); (case side1 => exact Z55); (case side2 => exact Z56); rintro e w6 ⟨rfl, hi, hb, hk⟩; refine ⟨_, rfl, ?_⟩; replace HK := Z (KeepBut.trans Z57 hk (.inl rfl)); replace HB := Z (hb); replace HI0 := Z (hi); (try clear hb); (try clear hb2); (try clear hk); (try clear hi); have p329 : 0 ≤ (t326 : Int) := of_decide_eq_true Z10; have q329 : t326 < (l1.length : Int) := of_decide_eq_true Z10; obtain ⟨ad329, e329, hx329_0⟩ := Kd.at_int HR1.out t326 p329 q329; cases e329; replace hx329_0 := keep_cell HK.out hx329_0 (by first | (rw [add_block]; exact hf1 _ rfl (by omega)) | exact hf1 _ rfl (by omega) | exact hf1 ad329 rfl (by omega)); replace p329 := eq_true p329; replace q329 := eq_true q329))
   go_ret
   exact ⟨Z7, Z55, Z56, Z57⟩
  ·rw [if_neg c5] at H
   exact absurd H (by simp)
 ·rw [if_neg c4] at H
  exact absurd H (by simp)

/-! ### spec_l04Int: function 111 -/
def spec_l04Int.f (s0_0 : List Int) (s0_1 : Int) (s0_2 : Int) : Option (Int × Int × Int) := (spec_l01Once.f s0_0 s0_1 s0_2 2).bind fun bt330 => (if bt330.1 = true then ((spec_l01Below.f s0_0 bt330.2.1 bt330.2.2 200).bind fun bt333 => (some (wrap32 (wrap64 (bt333.1 - 40)), bt333.2.1, bt333.2.2))) else ((spec_l01PickInt.f s0_0 bt330.2.1 bt330.2.2 (([0, 67108863, 67108864, (-67108864), (-67108865), 2147483647, (-2147483648), 1000000, (-1)] : List Int))).bind fun bt339 => (some (wrap32 (bt339.1), bt339.2.1, bt339.2.2))))
set_option maxHeartbeats 8000000 in
set_option maxRecDepth 100000 in
theorem spec_l04Int.calls (g : Nat) (s0_0 : List Int) (s0_1 : Int) (s0_2 : Int) (r1 : Int) (r2 : Int) (r3 : Int) (w0 w : World) (hI : IsS97 w0 w g s0_0 s0_1 s0_2) (hB : Below w0.heap.size w0 w) (h : spec_l04Int.f s0_0 s0_1 s0_2 = some (r1, r2, r3)) :
  Calls Try.prog 111 #[.pointer (some ⟨g, 0, none⟩)] w fun e w' => e = .returned (.int .i32 r1) ∧ IsS97 w0 w' g s0_0 r2 r3 ∧ Below w0.heap.size w0 w' ∧ KeepBut w w' g none := by
 have HI0 := Aside0.mk hI
 have HK := Z (KeepBut.refl w g none)
 have HL := Aside0.mk hB.size
 clear hI
 have HW0 := Aside0.mk hB.size
 have HB := Aside0.mk hB
 clear hB
 have H : ((spec_l01Once.f s0_0 s0_1 s0_2 2).bind fun bt330 => (if bt330.1 = true then ((spec_l01Below.f s0_0 bt330.2.1 bt330.2.2 200).bind fun bt333 => (some (wrap32 (wrap64 (bt333.1 - 40)), bt333.2.1, bt333.2.2))) else ((spec_l01PickInt.f s0_0 bt330.2.1 bt330.2.2 (([0, 67108863, 67108864, (-67108864), (-67108865), 2147483647, (-2147483648), 1000000, (-1)] : List Int))).bind fun bt339 => (some (wrap32 (bt339.1), bt339.2.1, bt339.2.2))))) = some (r1, r2, r3) := h
 clear h
 replace H := Option.bind_eq_some_iff.mp H
 obtain ⟨⟨t330, t331, t332⟩, A20, H⟩ := H
 replace H : (if t330 = true then ((spec_l01Below.f s0_0 t331 t332 200).bind fun bt333 => (some (wrap32 (wrap64 (bt333.1 - 40)), bt333.2.1, bt333.2.2))) else ((spec_l01PickInt.f s0_0 t331 t332 (([0, 67108863, 67108864, (-67108864), (-67108865), 2147483647, (-2147483648), 1000000, (-1)] : List Int))).bind fun bt339 => (some (wrap32 (bt339.1), bt339.2.1, bt339.2.2)))) = some (r1, r2, r3) := H
 have A2 := Aside0.mk A20
 clear A20
 by_cases c3 : t330 = true
 ·subst c3
  have H1 : ((spec_l01Below.f s0_0 t331 t332 200).bind fun bt333 => (some (wrap32 (wrap64 (bt333.1 - 40)), bt333.2.1, bt333.2.2))) = some (r1, r2, r3) := Z4
  clear H
  have H := H1
  clear H1
  replace H := Option.bind_eq_some_iff.mp H
  obtain ⟨⟨t333, t334, t335⟩, A40, H⟩ := H
  replace H : (some (wrap32 (wrap64 (t333 - 40)), t334, t335)) = some (r1, r2, r3) := H
  have A4 := Aside0.mk A40
  clear A40
  simp only [Option.some.injEq, Prod.mk.injEq] at H
  obtain ⟨rfl, rfl, rfl⟩ := H
  go_enter Try.func111, Try.ntmps111
  go_wp2_with (first | ((with_reducible refine gate_callee (f := 87) rfl ?_); refine goesL_ (some 4) rfl rfl Try.func87 Z0 rfl #[.pointer (some ⟨g, 0, none⟩), .int .i64 2] rfl Z9 ?_; (with_reducible refine (spec_l01Once.calls g s0_0 s0_1 s0_2 2 true t331 t332 w0 _ ?side1 ?side2 A2.out).mono ?_); (case side1 => exact Z55); (case side2 => exact Z56); rintro e w5 ⟨rfl, hi, hb, hk⟩; refine ⟨_, rfl, ?_⟩; replace HK := Z (KeepBut.trans Z57 hk (.inl rfl)); replace HB := Z (hb); replace HI0 := Z (hi); (try clear hb); (try clear hb2); (try clear hk); (try clear hi)) | ((with_reducible refine gate_callee (f := 73) rfl ?_); refine goesL_ (some 6) rfl rfl Try.func73 Z0 rfl #[.pointer (some ⟨g, 0, none⟩), .int .i64 200] rfl Z9 ?_; (with_reducible refine (spec_l01Below.calls g s0_0 t331 t332 200 t333 t334 t335 w0 _ ?side1 ?side2 A4.out).mono ?_); (case side1 => exact Z55); (case side2 => exact Z56); rintro e w6 ⟨rfl, hi, hb, hk⟩; refine ⟨_, rfl, ?_⟩; replace HK := Z (KeepBut.trans Z57 hk (.inl rfl)); replace HB := Z (hb); replace HI0 := Z (hi); (try clear hb); (try clear hb2); (try clear hk); (try clear hi)))
  go_ret
  exact ⟨Z7, Z55, Z56, Z57⟩
 ·replace c3 := Bool.eq_false_iff.mpr c3
  subst c3
  have H1 : ((spec_l01PickInt.f s0_0 t331 t332 (([0, 67108863, 67108864, (-67108864), (-67108865), 2147483647, (-2147483648), 1000000, (-1)] : List Int))).bind fun bt339 => (some (wrap32 (bt339.1), bt339.2.1, bt339.2.2))) = some (r1, r2, r3) := by rw [if_neg (show ¬ (false = true) by decide)] at H; exact H
  clear H
  have H := H1
  clear H1
  obtain ⟨y336, hy336⟩ : ∃ y_ : List Int, y_ = (([0, 67108863, 67108864, (-67108864), (-67108865), 2147483647, (-2147483648), 1000000, (-1)] : List Int)) := ⟨_, rfl⟩
  replace H : ((spec_l01PickInt.f s0_0 t331 t332 y336).bind fun bt339 => (some (wrap32 (bt339.1), bt339.2.1, bt339.2.2))) = some (r1, r2, r3) := by first | (rw [hy336]; with_reducible exact H) | (have H2_ := (Option.bind_some _ _).symm.trans H; rw [hy336]; with_reducible exact H2_) | (have H2_ := (Option.bind_some _ _).symm.trans H; with_reducible exact H2_) | with_reducible exact H | (rw [hy336]; exact H) | exact H
  have Ny336 := Aside0.mk hy336
  clear hy336
  replace H := Option.bind_eq_some_iff.mp H
  obtain ⟨⟨t339, t340, t341⟩, A70, H⟩ := H
  replace H : (some (wrap32 (t339), t340, t341)) = some (r1, r2, r3) := H
  have A7 := Aside0.mk A70
  clear A70
  simp only [Option.some.injEq, Prod.mk.injEq] at H
  obtain ⟨rfl, rfl, rfl⟩ := H
  go_enter Try.func111, Try.ntmps111
  go_wp2_with (first | ((with_reducible refine gate_callee (f := 87) rfl ?_); refine goesL_ (some 4) rfl rfl Try.func87 Z0 rfl #[.pointer (some ⟨g, 0, none⟩), .int .i64 2] rfl Z9 ?_; (with_reducible refine (spec_l01Once.calls g s0_0 s0_1 s0_2 2 false t331 t332 w0 _ ?side1 ?side2 A2.out).mono ?_); (case side1 => exact Z55); (case side2 => exact Z56); rintro e w8 ⟨rfl, hi, hb, hk⟩; refine ⟨_, rfl, ?_⟩; replace HK := Z (KeepBut.trans Z57 hk (.inl rfl)); replace HB := Z (hb); replace HI0 := Z (hi); (try clear hb); (try clear hb2); (try clear hk); (try clear hi)) | ((with_reducible refine gate_dst (N := 10) rfl ?_); refine Kd.R_lit (Kd.int .i64) _ 3 (by rfl) (N := 10) (by rfl) (xs := ([0, 67108863, 67108864, (-67108864), (-67108865), 2147483647, (-2147483648), 1000000, (-1)] : List Int)) (inner := [.int .i64 0, .int .i64 67108863, .int .i64 67108864, .int .i64 (-67108864), .int .i64 (-67108865), .int .i64 2147483647, .int .i64 (-2147483648), .int .i64 1000000, .int .i64 (-1)]) (ok := fun _ => True) (okp := fun _ => True) Z5 (Reps.one (show Kd.M (Kd.int .i64) _ _ _ 0 [.int .i64 0] from rfl) (Reps.one (show Kd.M (Kd.int .i64) _ _ _ 67108863 [.int .i64 67108863] from rfl) (Reps.one (show Kd.M (Kd.int .i64) _ _ _ 67108864 [.int .i64 67108864] from rfl) (Reps.one (show Kd.M (Kd.int .i64) _ _ _ (-67108864) [.int .i64 (-67108864)] from rfl) (Reps.one (show Kd.M (Kd.int .i64) _ _ _ (-67108865) [.int .i64 (-67108865)] from rfl) (Reps.one (show Kd.M (Kd.int .i64) _ _ _ 2147483647 [.int .i64 2147483647] from rfl) (Reps.one (show Kd.M (Kd.int .i64) _ _ _ (-2147483648) [.int .i64 (-2147483648)] from rfl) (Reps.one (show Kd.M (Kd.int .i64) _ _ _ 1000000 [.int .i64 1000000] from rfl) (Reps.one (show Kd.M (Kd.int .i64) _ _ _ (-1) [.int .i64 (-1)] from rfl) (Reps.none _ _)))))))))) (fun _ hk => hk) trivial (Below.refl _ _) (Nat.le_refl _) (by simp) ?_; intro v337 w9 ho10 hb hg_ hnew_; clear hg_ hnew_; (first | rw [← Ny336.out] at ho10 | (simp only [Int.reduceToNat] at ho10; rw [← Ny336.out] at ho10)); have HO338 := Z (Kd.R_lower ho10 (keep_size (w := w) (g := g) (row := none) Z57)); replace HK := Z (KeepBut.trans Z57 (KeepBut.of_below hb g none) (.inl rfl)); replace HB := Z (below_step Z56 hb); replace HI0 := Z (IsS97.below Z55 hb); clear hb ho10; obtain ⟨Ao11, co11, eo11⟩ := Kd.R_slice HO338.out; subst eo11) | ((with_reducible refine gate_callee (f := 86) rfl ?_); refine goesL_ (some 11) rfl rfl Try.func86 Z0 rfl #[.pointer (some ⟨g, 0, none⟩), .slice Ao11 y336.length co11] rfl Z9 ?_; (with_reducible refine (spec_l01PickInt.calls g s0_0 t331 t332 _ _ y336 t339 t340 t341 w0 _ ?side1 ?side2 ?side3 ?side4 ?side5 A7.out).mono ?_); (case side1 => exact Z55); (case side2 => exact Z56); (case side3 => exact (Z28 HO338)); (case side4 => exact (Kd.R_reads' HO338.out).2.1); (case side5 => exact far_slice (IsS97.own_ne HI0.out HO338.out (by decide))); rintro e w12 ⟨rfl, hi, hb, hk⟩; refine ⟨_, rfl, ?_⟩; replace HO338 := Z (Kd.R_mono (Kd.R_keep (IsS97.apart (show IsS97 w0 _ g s0_0 t331 t332 from Z55) (Z8 HO338) (by decide)) hk (fun _ h => h.2)) (fun _ h => h.1)); replace HK := Z (KeepBut.trans Z57 hk (.inl rfl)); replace HB := Z (hb); replace HI0 := Z (hi); (try clear hb); (try clear hb2); (try clear hk); (try clear hi)))
  go_ret
  exact ⟨Z7, Z55, Z56, Z57⟩

/-! ### spec_LetterAt: function 118 -/
def spec_LetterAt.f (a0 : Int) : Option (Int) := (spec_l01In.f a0 0 47).bind fun t342 => (if t342 = true then ((spec_l02All.f).bind fun t343 => (if 0 ≤ a0 then (if a0 < (t343.size : Int) then (some (bt t343 a0)) else (none)) else (none))) else (some 0))
set_option maxHeartbeats 8000000 in
set_option maxRecDepth 100000 in
theorem spec_LetterAt.calls (a0 : Int) (r : Int) (w : World) (h : spec_LetterAt.f a0 = some r) :
  Calls Try.prog 118 #[.int .i64 a0] w fun e w' => e = .returned (.int .u8 r) ∧ Drawn0 w w' := by
 have H : ((spec_l01In.f a0 0 47).bind fun t342 => (if t342 = true then ((spec_l02All.f).bind fun t343 => (if 0 ≤ a0 then (if a0 < (t343.size : Int) then (some (bt t343 a0)) else (none)) else (none))) else (some 0))) = some r := h
 clear h
 replace H := Option.bind_eq_some_iff.mp H
 obtain ⟨t342, A20, H⟩ := H
 replace H : (if t342 = true then ((spec_l02All.f).bind fun t343 => (if 0 ≤ a0 then (if a0 < (t343.size : Int) then (some (bt t343 a0)) else (none)) else (none))) else (some 0)) = some r := H
 have A2 := Aside0.mk A20
 clear A20
 by_cases c3 : t342 = true
 ·subst c3
  have H1 : ((spec_l02All.f).bind fun t343 => (if 0 ≤ a0 then (if a0 < (t343.size : Int) then (some (bt t343 a0)) else (none)) else (none))) = some r := Z4
  clear H
  have H := H1
  clear H1
  replace H := Option.bind_eq_some_iff.mp H
  obtain ⟨t343, A40, H⟩ := H
  replace H : (if 0 ≤ a0 then (if a0 < (t343.size : Int) then (some (bt t343 a0)) else (none)) else (none)) = some r := H
  have A4 := Aside0.mk A40
  clear A40
  by_cases c5 : 0 ≤ a0
  ·rw [if_pos c5] at H
   have c5b0 : decide (0 ≤ a0) = true := decide_eq_true c5
   clear c5
   by_cases c6 : a0 < (t343.size : Int)
   ·rw [if_pos c6] at H
    have c6b0 : decide (a0 < (t343.size : Int)) = true := decide_eq_true c6
    clear c6
    obtain rfl := Option.some.inj H
    go_enter Try.func118, Try.ntmps118
    go_wp2_with (first | ((with_reducible refine gate_callee (f := 68) rfl ?_); refine goesL_ (some 4) rfl rfl Try.func68 Z0 rfl #[.int .i64 a0, .int .i64 0, .int .i64 47] rfl Z9 ?_; (with_reducible refine (spec_l01In.calls a0 0 47 true _ A2.out).mono ?_); rintro e w' ⟨rfl, ⟨nd, rfl⟩⟩; refine ⟨_, rfl, ?_⟩) | ((with_reducible refine gate_callee (f := 130) rfl ?_); refine goesL_ (some 6) rfl rfl Try.func130 Z0 rfl #[] rfl Z9 ?_; (with_reducible refine (spec_l02All.calls  t343 _ A4.out).mono ?_); rintro e w' ⟨rfl, ⟨nd, rfl⟩⟩; refine ⟨_, rfl, ?_⟩; have p7 : 0 ≤ (a0 : Int) := of_decide_eq_true Z10; have q7 : a0 < (t343.size : Int) := of_decide_eq_true Z10; have hx7 := bt_at t343 a0; replace p7 := eq_true p7; replace q7 := eq_true q7))
    go_ret
    exact ⟨Z2, Z3⟩
   ·rw [if_neg c6] at H
    exact absurd H (by simp)
  ·rw [if_neg c5] at H
   exact absurd H (by simp)
 ·replace c3 := Bool.eq_false_iff.mpr c3
  subst c3
  have H1 : (some 0) = some r := by rw [if_neg (show ¬ (false = true) by decide)] at H; exact H
  clear H
  have H := H1
  clear H1
  obtain rfl := Option.some.inj H
  go_enter Try.func118, Try.ntmps118
  go_wp2_with (first | ((with_reducible refine gate_callee (f := 68) rfl ?_); refine goesL_ (some 4) rfl rfl Try.func68 Z0 rfl #[.int .i64 a0, .int .i64 0, .int .i64 47] rfl Z9 ?_; (with_reducible refine (spec_l01In.calls a0 0 47 false _ A2.out).mono ?_); rintro e w' ⟨rfl, ⟨nd, rfl⟩⟩; refine ⟨_, rfl, ?_⟩))
  go_ret
  exact ⟨Z2, Z3⟩

/-! ### spec_l02Name: function 112 -/
def spec_l02Name.l0 : Nat → List Int → Int → Int → List Int → Int → Int → Option (ByteArray × Int × Int)
 | 0, _, _, _, _, _, _ => none
 | k + 1, x3, x4, x5, x1000, x1001, x1002 => if x5 < x4 then ((spec_l01Below.f x1000 x1001 x1002 47).bind fun bt359 => ((spec_LetterAt.f (wrap64 (1 + bt359.1))).bind fun t362 => (if x3.length < 140737488355328 then (spec_l02Name.l0 k (x3 ++ [t362]) x4 (wrap64 (x5 + 1)) x1000 bt359.2.1 bt359.2.2) else (none)))) else (some (strOfNums x3, x1001, x1002))
def spec_l02Name.f (k : Nat) (s0_0 : List Int) (s0_1 : Int) (s0_2 : Int) : Option (ByteArray × Int × Int) := (spec_l01Once.f s0_0 s0_1 s0_2 2).bind fun bt344 => (if bt344.1 = true then ((spec_l01Pick.f s0_0 bt344.2.1 bt344.2.2 (([(⟨#[100, 117, 112]⟩ : ByteArray), (⟨#[111, 118, 101, 114]⟩ : ByteArray), (⟨#[115, 113, 117, 97, 114, 101]⟩ : ByteArray), (⟨#[97, 33]⟩ : ByteArray), (⟨#[50, 42]⟩ : ByteArray), (⟨#[103, 111]⟩ : ByteArray), (⟨#[45, 105, 102]⟩ : ByteArray), (⟨#[59]⟩ : ByteArray), (⟨#[63]⟩ : ByteArray), (⟨#[114, 114, 114, 114, 114, 114, 114]⟩ : ByteArray), (⟨#[114, 116, 111, 101, 97, 110, 105]⟩ : ByteArray), (⟨#[119, 119, 119, 119, 119, 119]⟩ : ByteArray), (⟨#[113, 113, 113, 113, 113]⟩ : ByteArray), (⟨#[120]⟩ : ByteArray)] : List ByteArray))).bind fun bt350 => (some (bt350.1, bt350.2.1, bt350.2.2))) else ((spec_l01Below.f s0_0 bt344.2.1 bt344.2.2 9).bind fun bt356 => (spec_l02Name.l0 k (([] : List Int)) (wrap64 (1 + bt356.1)) 0 s0_0 bt356.2.1 bt356.2.2)))
theorem spec_l02Name.mono_l : ∀ k, (∀ y0 y1 y2 y3 y4 y5, LeO (spec_l02Name.l0 k y0 y1 y2 y3 y4 y5) (spec_l02Name.l0 (k + 1) y0 y1 y2 y3 y4 y5))
 | 0 => fun _ _ _ _ _ _ r h => by simp [spec_l02Name.l0] at h
 | k + 1 => by
  have ih0 := spec_l02Name.mono_l k
  ·intro y0 y1 y2 y3 y4 y5
   unfold spec_l02Name.l0
   repeat' first
   | (with_reducible exact ih0 _ _ _ _ _ _)
   | (with_reducible exact LeO.refl _)
   | (with_reducible exact LeO.none _)
   | (with_reducible refine LeO.ite ?_ ?_)
   | (with_reducible refine LeO.bind ?_ (fun _ => ?_))
   | exact ih0 _ _ _ _ _ _
   | exact LeO.none _
   | refine LeO.ite ?_ ?_
   | refine LeO.bind ?_ (fun _ => ?_)
theorem spec_l02Name.mono : ∀ a0 a1 a2 k, LeO (spec_l02Name.f k a0 a1 a2) (spec_l02Name.f (k + 1) a0 a1 a2) := by
 intro a0 a1 a2 k
 have ih0 := spec_l02Name.mono_l k
 unfold spec_l02Name.f
 repeat' first
   | (with_reducible exact ih0 _ _ _ _ _ _)
   | (with_reducible exact LeO.refl _)
   | (with_reducible exact LeO.none _)
   | (with_reducible refine LeO.ite ?_ ?_)
   | (with_reducible refine LeO.bind ?_ (fun _ => ?_))
   | exact ih0 _ _ _ _ _ _
   | exact LeO.none _
   | refine LeO.ite ?_ ?_
   | refine LeO.bind ?_ (fun _ => ?_)
set_option maxHeartbeats 8000000 in
set_option maxRecDepth 100000 in
theorem spec_l02Name.calls (k : Nat) (g : Nat) (s0_0 : List Int) (s0_1 : Int) (s0_2 : Int) (r1 : ByteArray) (r2 : Int) (r3 : Int) (w0 w : World) (hI : IsS97 w0 w g s0_0 s0_1 s0_2) (hB : Below w0.heap.size w0 w) (h : spec_l02Name.f k s0_0 s0_1 s0_2 = some (r1, r2, r3)) :
  Calls Try.prog 112 #[.pointer (some ⟨g, 0, none⟩)] w fun e w' => e = .returned (.string r1) ∧ IsS97 w0 w' g s0_0 r2 r3 ∧ Below w0.heap.size w0 w' ∧ KeepBut w w' g none := by
 have HI0 := Aside0.mk hI
 have HK := Z (KeepBut.refl w g none)
 have HL := Aside0.mk hB.size
 clear hI
 have HW0 := Aside0.mk hB.size
 have HB := Aside0.mk hB
 clear hB
 have H : ((spec_l01Once.f s0_0 s0_1 s0_2 2).bind fun bt344 => (if bt344.1 = true then ((spec_l01Pick.f s0_0 bt344.2.1 bt344.2.2 (([(⟨#[100, 117, 112]⟩ : ByteArray), (⟨#[111, 118, 101, 114]⟩ : ByteArray), (⟨#[115, 113, 117, 97, 114, 101]⟩ : ByteArray), (⟨#[97, 33]⟩ : ByteArray), (⟨#[50, 42]⟩ : ByteArray), (⟨#[103, 111]⟩ : ByteArray), (⟨#[45, 105, 102]⟩ : ByteArray), (⟨#[59]⟩ : ByteArray), (⟨#[63]⟩ : ByteArray), (⟨#[114, 114, 114, 114, 114, 114, 114]⟩ : ByteArray), (⟨#[114, 116, 111, 101, 97, 110, 105]⟩ : ByteArray), (⟨#[119, 119, 119, 119, 119, 119]⟩ : ByteArray), (⟨#[113, 113, 113, 113, 113]⟩ : ByteArray), (⟨#[120]⟩ : ByteArray)] : List ByteArray))).bind fun bt350 => (some (bt350.1, bt350.2.1, bt350.2.2))) else ((spec_l01Below.f s0_0 bt344.2.1 bt344.2.2 9).bind fun bt356 => (spec_l02Name.l0 k (([] : List Int)) (wrap64 (1 + bt356.1)) 0 s0_0 bt356.2.1 bt356.2.2)))) = some (r1, r2, r3) := h
 clear h
 replace H := Option.bind_eq_some_iff.mp H
 obtain ⟨⟨t344, t345, t346⟩, A20, H⟩ := H
 replace H : (if t344 = true then ((spec_l01Pick.f s0_0 t345 t346 (([(⟨#[100, 117, 112]⟩ : ByteArray), (⟨#[111, 118, 101, 114]⟩ : ByteArray), (⟨#[115, 113, 117, 97, 114, 101]⟩ : ByteArray), (⟨#[97, 33]⟩ : ByteArray), (⟨#[50, 42]⟩ : ByteArray), (⟨#[103, 111]⟩ : ByteArray), (⟨#[45, 105, 102]⟩ : ByteArray), (⟨#[59]⟩ : ByteArray), (⟨#[63]⟩ : ByteArray), (⟨#[114, 114, 114, 114, 114, 114, 114]⟩ : ByteArray), (⟨#[114, 116, 111, 101, 97, 110, 105]⟩ : ByteArray), (⟨#[119, 119, 119, 119, 119, 119]⟩ : ByteArray), (⟨#[113, 113, 113, 113, 113]⟩ : ByteArray), (⟨#[120]⟩ : ByteArray)] : List ByteArray))).bind fun bt350 => (some (bt350.1, bt350.2.1, bt350.2.2))) else ((spec_l01Below.f s0_0 t345 t346 9).bind fun bt356 => (spec_l02Name.l0 k (([] : List Int)) (wrap64 (1 + bt356.1)) 0 s0_0 bt356.2.1 bt356.2.2))) = some (r1, r2, r3) := H
 have A2 := Aside0.mk A20
 clear A20
 by_cases c3 : t344 = true
 ·subst c3
  have H1 : ((spec_l01Pick.f s0_0 t345 t346 (([(⟨#[100, 117, 112]⟩ : ByteArray), (⟨#[111, 118, 101, 114]⟩ : ByteArray), (⟨#[115, 113, 117, 97, 114, 101]⟩ : ByteArray), (⟨#[97, 33]⟩ : ByteArray), (⟨#[50, 42]⟩ : ByteArray), (⟨#[103, 111]⟩ : ByteArray), (⟨#[45, 105, 102]⟩ : ByteArray), (⟨#[59]⟩ : ByteArray), (⟨#[63]⟩ : ByteArray), (⟨#[114, 114, 114, 114, 114, 114, 114]⟩ : ByteArray), (⟨#[114, 116, 111, 101, 97, 110, 105]⟩ : ByteArray), (⟨#[119, 119, 119, 119, 119, 119]⟩ : ByteArray), (⟨#[113, 113, 113, 113, 113]⟩ : ByteArray), (⟨#[120]⟩ : ByteArray)] : List ByteArray))).bind fun bt350 => (some (bt350.1, bt350.2.1, bt350.2.2))) = some (r1, r2, r3) := Z4
  clear H
  have H := H1
  clear H1
  obtain ⟨y347, hy347⟩ : ∃ y_ : List ByteArray, y_ = (([(⟨#[100, 117, 112]⟩ : ByteArray), (⟨#[111, 118, 101, 114]⟩ : ByteArray), (⟨#[115, 113, 117, 97, 114, 101]⟩ : ByteArray), (⟨#[97, 33]⟩ : ByteArray), (⟨#[50, 42]⟩ : ByteArray), (⟨#[103, 111]⟩ : ByteArray), (⟨#[45, 105, 102]⟩ : ByteArray), (⟨#[59]⟩ : ByteArray), (⟨#[63]⟩ : ByteArray), (⟨#[114, 114, 114, 114, 114, 114, 114]⟩ : ByteArray), (⟨#[114, 116, 111, 101, 97, 110, 105]⟩ : ByteArray), (⟨#[119, 119, 119, 119, 119, 119]⟩ : ByteArray), (⟨#[113, 113, 113, 113, 113]⟩ : ByteArray), (⟨#[120]⟩ : ByteArray)] : List ByteArray)) := ⟨_, rfl⟩
  replace H : ((spec_l01Pick.f s0_0 t345 t346 y347).bind fun bt350 => (some (bt350.1, bt350.2.1, bt350.2.2))) = some (r1, r2, r3) := by first | (rw [hy347]; with_reducible exact H) | (have H2_ := (Option.bind_some _ _).symm.trans H; rw [hy347]; with_reducible exact H2_) | (have H2_ := (Option.bind_some _ _).symm.trans H; with_reducible exact H2_) | with_reducible exact H | (rw [hy347]; exact H) | exact H
  have Ny347 := Aside0.mk hy347
  clear hy347
  replace H := Option.bind_eq_some_iff.mp H
  obtain ⟨⟨t350, t351, t352⟩, A40, H⟩ := H
  replace H : (some (t350, t351, t352)) = some (r1, r2, r3) := H
  have A4 := Aside0.mk A40
  clear A40
  simp only [Option.some.injEq, Prod.mk.injEq] at H
  obtain ⟨rfl, rfl, rfl⟩ := H
  go_enter Try.func112, Try.ntmps112
  go_wp2_with (first | ((with_reducible refine gate_callee (f := 87) rfl ?_); refine goesL_ (some 7) rfl rfl Try.func87 Z0 rfl #[.pointer (some ⟨g, 0, none⟩), .int .i64 2] rfl Z9 ?_; (with_reducible refine (spec_l01Once.calls g s0_0 s0_1 s0_2 2 true t345 t346 w0 _ ?side1 ?side2 A2.out).mono ?_); (case side1 => exact Z55); (case side2 => exact Z56); rintro e w5 ⟨rfl, hi, hb, hk⟩; refine ⟨_, rfl, ?_⟩; replace HK := Z (KeepBut.trans Z57 hk (.inl rfl)); replace HB := Z (hb); replace HI0 := Z (hi); (try clear hb); (try clear hb2); (try clear hk); (try clear hi)) | ((with_reducible refine gate_dst (N := 9) rfl ?_); refine Kd.R_lit Kd.string _ 9 (by rfl) (N := 9) (by rfl) (xs := ([(⟨#[100, 117, 112]⟩ : ByteArray), (⟨#[111, 118, 101, 114]⟩ : ByteArray), (⟨#[115, 113, 117, 97, 114, 101]⟩ : ByteArray), (⟨#[97, 33]⟩ : ByteArray), (⟨#[50, 42]⟩ : ByteArray), (⟨#[103, 111]⟩ : ByteArray), (⟨#[45, 105, 102]⟩ : ByteArray), (⟨#[59]⟩ : ByteArray), (⟨#[63]⟩ : ByteArray), (⟨#[114, 114, 114, 114, 114, 114, 114]⟩ : ByteArray), (⟨#[114, 116, 111, 101, 97, 110, 105]⟩ : ByteArray), (⟨#[119, 119, 119, 119, 119, 119]⟩ : ByteArray), (⟨#[113, 113, 113, 113, 113]⟩ : ByteArray), (⟨#[120]⟩ : ByteArray)] : List ByteArray)) (inner := [.string (⟨#[100, 117, 112]⟩ : ByteArray), .string (⟨#[111, 118, 101, 114]⟩ : ByteArray), .string (⟨#[115, 113, 117, 97, 114, 101]⟩ : ByteArray), .string (⟨#[97, 33]⟩ : ByteArray), .string (⟨#[50, 42]⟩ : ByteArray), .string (⟨#[103, 111]⟩ : ByteArray), .string (⟨#[45, 105, 102]⟩ : ByteArray), .string (⟨#[59]⟩ : ByteArray), .string (⟨#[63]⟩ : ByteArray), .string (⟨#[114, 114, 114, 114, 114, 114, 114]⟩ : ByteArray), .string (⟨#[114, 116, 111, 101, 97, 110, 105]⟩ : ByteArray), .string (⟨#[119, 119, 119, 119, 119, 119]⟩ : ByteArray), .string (⟨#[113, 113, 113, 113, 113]⟩ : ByteArray), .string (⟨#[120]⟩ : ByteArray)]) (ok := fun _ => True) (okp := fun _ => True) Z5 (Reps.one (show Kd.M Kd.string _ _ _ (⟨#[100, 117, 112]⟩ : ByteArray) [.string (⟨#[100, 117, 112]⟩ : ByteArray)] from rfl) (Reps.one (show Kd.M Kd.string _ _ _ (⟨#[111, 118, 101, 114]⟩ : ByteArray) [.string (⟨#[111, 118, 101, 114]⟩ : ByteArray)] from rfl) (Reps.one (show Kd.M Kd.string _ _ _ (⟨#[115, 113, 117, 97, 114, 101]⟩ : ByteArray) [.string (⟨#[115, 113, 117, 97, 114, 101]⟩ : ByteArray)] from rfl) (Reps.one (show Kd.M Kd.string _ _ _ (⟨#[97, 33]⟩ : ByteArray) [.string (⟨#[97, 33]⟩ : ByteArray)] from rfl) (Reps.one (show Kd.M Kd.string _ _ _ (⟨#[50, 42]⟩ : ByteArray) [.string (⟨#[50, 42]⟩ : ByteArray)] from rfl) (Reps.one (show Kd.M Kd.string _ _ _ (⟨#[103, 111]⟩ : ByteArray) [.string (⟨#[103, 111]⟩ : ByteArray)] from rfl) (Reps.one (show Kd.M Kd.string _ _ _ (⟨#[45, 105, 102]⟩ : ByteArray) [.string (⟨#[45, 105, 102]⟩ : ByteArray)] from rfl) (Reps.one (show Kd.M Kd.string _ _ _ (⟨#[59]⟩ : ByteArray) [.string (⟨#[59]⟩ : ByteArray)] from rfl) (Reps.one (show Kd.M Kd.string _ _ _ (⟨#[63]⟩ : ByteArray) [.string (⟨#[63]⟩ : ByteArray)] from rfl) (Reps.one (show Kd.M Kd.string _ _ _ (⟨#[114, 114, 114, 114, 114, 114, 114]⟩ : ByteArray) [.string (⟨#[114, 114, 114, 114, 114, 114, 114]⟩ : ByteArray)] from rfl) (Reps.one (show Kd.M Kd.string _ _ _ (⟨#[114, 116, 111, 101, 97, 110, 105]⟩ : ByteArray) [.string (⟨#[114, 116, 111, 101, 97, 110, 105]⟩ : ByteArray)] from rfl) (Reps.one (show Kd.M Kd.string _ _ _ (⟨#[119, 119, 119, 119, 119, 119]⟩ : ByteArray) [.string (⟨#[119, 119, 119, 119, 119, 119]⟩ : ByteArray)] from rfl) (Reps.one (show Kd.M Kd.string _ _ _ (⟨#[113, 113, 113, 113, 113]⟩ : ByteArray) [.string (⟨#[113, 113, 113, 113, 113]⟩ : ByteArray)] from rfl) (Reps.one (show Kd.M Kd.string _ _ _ (⟨#[120]⟩ : ByteArray) [.string (⟨#[120]⟩ : ByteArray)] from rfl) (Reps.none _ _))))))))))))))) (fun _ hk => hk) trivial (Below.refl _ _) (Nat.le_refl _) (by simp) ?_; intro v348 w6 ho7 hb hg_ hnew_; clear hg_ hnew_; (first | rw [← Ny347.out] at ho7 | (simp only [Int.reduceToNat] at ho7; rw [← Ny347.out] at ho7)); have HO349 := Z (Kd.R_lower ho7 (keep_size (w := w) (g := g) (row := none) Z57)); replace HK := Z (KeepBut.trans Z57 (KeepBut.of_below hb g none) (.inl rfl)); replace HB := Z (below_step Z56 hb); replace HI0 := Z (IsS97.below Z55 hb); clear hb ho7; obtain ⟨Ao8, co8, eo8⟩ := Kd.R_slice HO349.out; subst eo8) | ((with_reducible refine gate_callee (f := 105) rfl ?_); refine goesL_ (some 10) rfl rfl Try.func105 Z0 rfl #[.pointer (some ⟨g, 0, none⟩), .slice Ao8 y347.length co8] rfl Z9 ?_; (with_reducible refine (spec_l01Pick.calls g s0_0 t345 t346 _ _ y347 t350 t351 t352 w0 _ ?side1 ?side2 ?side3 ?side4 ?side5 A4.out).mono ?_); (case side1 => exact Z55); (case side2 => exact Z56); (case side3 => exact (Z28 HO349)); (case side4 => exact (Kd.R_reads' HO349.out).2.1); (case side5 => exact far_slice (IsS97.own_ne HI0.out HO349.out (by decide))); rintro e w9 ⟨rfl, hi, hb, hk⟩; refine ⟨_, rfl, ?_⟩; replace HO349 := Z (Kd.R_mono (Kd.R_keep (IsS97.apart (show IsS97 w0 _ g s0_0 t345 t346 from Z55) (Z8 HO349) (by decide)) hk (fun _ h => h.2)) (fun _ h => h.1)); replace HK := Z (KeepBut.trans Z57 hk (.inl rfl)); replace HB := Z (hb); replace HI0 := Z (hi); (try clear hb); (try clear hb2); (try clear hk); (try clear hi)))
  go_ret
  exact ⟨Z7, Z55, Z56, Z57⟩
 ·replace c3 := Bool.eq_false_iff.mpr c3
  subst c3
  have H1 : ((spec_l01Below.f s0_0 t345 t346 9).bind fun bt356 => (spec_l02Name.l0 k (([] : List Int)) (wrap64 (1 + bt356.1)) 0 s0_0 bt356.2.1 bt356.2.2)) = some (r1, r2, r3) := by rw [if_neg (show ¬ (false = true) by decide)] at H; exact H
  clear H
  have H := H1
  clear H1
  obtain ⟨y353, hy353⟩ : ∃ y_ : List Int, y_ = (([] : List Int)) := ⟨_, rfl⟩
  replace H : ((spec_l01Below.f s0_0 t345 t346 9).bind fun bt356 => (spec_l02Name.l0 k y353 (wrap64 (1 + bt356.1)) 0 s0_0 bt356.2.1 bt356.2.2)) = some (r1, r2, r3) := by first | (rw [hy353]; with_reducible exact H) | (have H2_ := (Option.bind_some _ _).symm.trans H; rw [hy353]; with_reducible exact H2_) | (have H2_ := (Option.bind_some _ _).symm.trans H; with_reducible exact H2_) | with_reducible exact H | (rw [hy353]; exact H) | exact H
  have Ny353 := Aside0.mk hy353
  clear hy353
  replace H := Option.bind_eq_some_iff.mp H
  obtain ⟨⟨t356, t357, t358⟩, A100, H⟩ := H
  replace H : (spec_l02Name.l0 k y353 (wrap64 (1 + t356)) 0 s0_0 t357 t358) = some (r1, r2, r3) := H
  have A10 := Aside0.mk A100
  clear A100
  have H' := Aside0.mk H
  clear H
  go_enter Try.func112, Try.ntmps112
  go_wp2_with (first | ((with_reducible refine gate_callee (f := 87) rfl ?_); refine goesL_ (some 7) rfl rfl Try.func87 Z0 rfl #[.pointer (some ⟨g, 0, none⟩), .int .i64 2] rfl Z9 ?_; (with_reducible refine (spec_l01Once.calls g s0_0 s0_1 s0_2 2 false t345 t346 w0 _ ?side1 ?side2 A2.out).mono ?_); (case side1 => exact Z55); (case side2 => exact Z56); rintro e w11 ⟨rfl, hi, hb, hk⟩; refine ⟨_, rfl, ?_⟩; replace HK := Z (KeepBut.trans Z57 hk (.inl rfl)); replace HB := Z (hb); replace HI0 := Z (hi); (try clear hb); (try clear hb2); (try clear hk); (try clear hi)) | ((with_reducible refine gate_dst (N := 11) rfl ?_); refine Kd.R_lit (Kd.int .u8) _ 5 (by rfl) (N := 11) (by rfl) (xs := ([] : List Int)) (inner := []) (ok := fun _ => True) (okp := fun _ => True) Z5 (Reps.none _ _) (fun _ hk => hk) trivial (Below.refl _ _) (Nat.le_refl _) (by simp) ?_; intro v354 w12 ho13 hb hg_ hnew_; clear hg_ hnew_; (first | rw [← Ny353.out] at ho13 | (simp only [Int.reduceToNat] at ho13; rw [← Ny353.out] at ho13)); have HO355 := Z (Kd.R_lower ho13 (keep_size (w := w) (g := g) (row := none) Z57)); replace HK := Z (KeepBut.trans Z57 (KeepBut.of_below hb g none) (.inl rfl)); replace HB := Z (below_step Z56 hb); replace HI0 := Z (IsS97.below Z55 hb); clear hb ho13) | ((with_reducible refine gate_callee (f := 73) rfl ?_); refine goesL_ (some 13) rfl rfl Try.func73 Z0 rfl #[.pointer (some ⟨g, 0, none⟩), .int .i64 9] rfl Z9 ?_; (with_reducible refine (spec_l01Below.calls g s0_0 t345 t346 9 t356 t357 t358 w0 _ ?side1 ?side2 A10.out).mono ?_); (case side1 => exact Z55); (case side2 => exact Z56); rintro e w14 ⟨rfl, hi, hb, hk⟩; refine ⟨_, rfl, ?_⟩; replace HO355 := Z (Kd.R_mono (Kd.R_keep (IsS97.apart (show IsS97 w0 _ g s0_0 t345 t346 from Z55) (Z8 HO355) (by decide)) hk (fun _ h => h.2)) (fun _ h => h.1)); replace HK := Z (KeepBut.trans Z57 hk (.inl rfl)); replace HB := Z (hb); replace HI0 := Z (hi); (try clear hb); (try clear hb2); (try clear hk); (try clear hi)))
  go_loopg [3, 5] k (fun kq v3 v5 w' => ∃ (x3_1 : List Int) (x5_1 : Int) (x1001_1 : Int) (x1002_1 : Int), v5 = .int .i64 x5_1 ∧ Aside0 (spec_l02Name.l0 kq x3_1 (wrap64 (1 + t356)) x5_1 s0_0 x1001_1 x1002_1 = some (r1, r2, r3)) ∧ Aside0 (kq ≤ k) ∧ Aside0 (Kd.R (Kd.int .u8) 5 w' w.heap.size (fun _ => True) v3 x3_1) ∧ Aside0 (IsS97 w0 w' g s0_0 x1001_1 x1002_1) ∧ Aside0 (KeepBut w w' g none) ∧ Aside0 (Below w0.heap.size w0 w'))
  case atStart => exact ⟨(y353), (0), (t357), (t358), Z2, H', ⟨Nat.le_refl _⟩, ⟨(Z8 HO355)⟩, ⟨Z55⟩, ⟨Z57⟩, ⟨Z56⟩⟩
  case round =>
   clear H'
   try clear c1
   try clear p2
   try clear c3
   try clear p6
   try clear c7
   try clear c8
   try clear c10
   try clear c11
   obtain ⟨x3_1, x5_1, x1001_1, x1002_1, rfl, HA, HK1, HO_3, HI0, HK, HB⟩ := hrel
   cases gk with
   | zero => exact absurd HA.out (by simp [spec_l02Name.l0])
   | succ k1 =>
    have H := HA.out
    clear HA
    simp only [spec_l02Name.l0] at H
    by_cases c15 : x5_1 < (wrap64 (1 + t356))
    ·rw [if_pos c15] at H
     have c15b0 : decide (x5_1 < (wrap64 (1 + t356))) = true := decide_eq_true c15
     clear c15
     replace H := Option.bind_eq_some_iff.mp H
     obtain ⟨⟨t359, t360, t361⟩, A160, H⟩ := H
     replace H : ((spec_LetterAt.f (wrap64 (1 + t359))).bind fun t362 => (if x3_1.length < 140737488355328 then (spec_l02Name.l0 k1 (x3_1 ++ [t362]) (wrap64 (1 + t356)) (wrap64 (x5_1 + 1)) s0_0 t360 t361) else (none))) = some (r1, r2, r3) := H
     have A16 := Aside0.mk A160
     clear A160
     replace H := Option.bind_eq_some_iff.mp H
     obtain ⟨t362, A170, H⟩ := H
     replace H : (if x3_1.length < 140737488355328 then (spec_l02Name.l0 k1 (x3_1 ++ [t362]) (wrap64 (1 + t356)) (wrap64 (x5_1 + 1)) s0_0 t360 t361) else (none)) = some (r1, r2, r3) := H
     have A17 := Aside0.mk A170
     clear A170
     by_cases c18 : x3_1.length < 140737488355328
     ·rw [if_pos c18] at H
      have LMc18 := Aside0.mk c18
      clear c18
      obtain ⟨y363, hy363⟩ : ∃ y_ : List Int, y_ = (x3_1 ++ [t362]) := ⟨_, rfl⟩
      replace H : (spec_l02Name.l0 k1 y363 (wrap64 (1 + t356)) (wrap64 (x5_1 + 1)) s0_0 t360 t361) = some (r1, r2, r3) := by first | (rw [hy363]; with_reducible exact H) | (have H2_ := (Option.bind_some _ _).symm.trans H; rw [hy363]; with_reducible exact H2_) | (have H2_ := (Option.bind_some _ _).symm.trans H; with_reducible exact H2_) | with_reducible exact H | (rw [hy363]; exact H) | exact H
      have Ny363 := Aside0.mk hy363
      clear hy363
      have H' := Aside0.mk H
      clear H
      go_wp2_with (first | ((with_reducible refine gate_callee (f := 73) rfl ?_); refine goesL_ (some 22) rfl rfl Try.func73 Z0 rfl #[.pointer (some ⟨g, 0, none⟩), .int .i64 47] rfl Z9 ?_; (with_reducible refine (spec_l01Below.calls g s0_0 x1001_1 x1002_1 47 t359 t360 t361 w0 _ ?side1 ?side2 A16.out).mono ?_); (case side1 => exact Z55); (case side2 => exact Z56); rintro e w19 ⟨rfl, hi, hb, hk⟩; refine ⟨_, rfl, ?_⟩; replace HO_3 := Z (Kd.R_mono (Kd.R_keep (IsS97.apart (show IsS97 w0 _ g s0_0 x1001_1 x1002_1 from Z55) (Z8 HO_3) (by decide)) hk (fun _ h => h.2)) (fun _ h => h.1)); replace HK := Z (KeepBut.trans Z57 hk (.inl rfl)); replace HB := Z (hb); replace HI0 := Z (hi); (try clear hb); (try clear hb2); (try clear hk); (try clear hi)) | ((with_reducible refine gate_callee (f := 118) rfl ?_); refine goesL_ (some 24) rfl rfl Try.func118 Z0 rfl #[.int .i64 (wrap64 (1 + t359))] rfl Z9 ?_; (with_reducible refine (spec_LetterAt.calls (wrap64 (1 + t359)) t362 _ A17.out).mono ?_); rintro e w' ⟨rfl, ⟨nd, rfl⟩⟩; refine ⟨_, rfl, ?_⟩) | ((with_reducible refine gate_builtin (b := .append) (xs := #[.tmp 20, .tmp 25]) rfl ?_); at_builtin; refine Kd.R_append (Kd.int .u8) w.heap.size rfl (.tmp 20) (.tmp 25) 22 5 (.int .u8 0) 1 rfl Try.underlying22 info5 rfl (by decide) (by omega) u3 x3_1 t362 [.int .u8 t362] (fun _ => True) (fun _ => False) rfl rfl ?aP (fun _ hk => hk.elim) ?aF ?aO (Below.refl _ _) ?aS ?aL ?_; (case aP => exact rfl); (case aF => exact (fun _ _ => trivial)); (case aO => exact (Z8 HO_3)); (case aS => exact (keep_size (w := w) (g := g) (row := none) Z57)); (case aL => have := LMc18.out; omega); intro v364 w20 ho hb hg hat; rw [← Ny363.out] at ho; replace HB := Z (below_weaken Z56 HL.out hb); replace HI0 := Z (IsS97.grown Z55 hg (IsS97.own_ne HI0.out HO_3.out (by decide))); replace HK := Z (KeepBut.trans Z57 (KeepBut.of_grown hg g) (Kd.R_base2 HO_3.out)); have HO365 := Z (ho); clear HO_3; clear ho hb hg hat))
      go_roundg k1
      case measure => have := HK1.out; omega
      case rel => exact ⟨(y363), (wrap64 (x5_1 + 1)), (t360), (t361), Z2, H', ⟨Z11⟩, ⟨(Z8 HO365)⟩, ⟨Z55⟩, ⟨Z57⟩, ⟨Z56⟩⟩
     ·rw [if_neg c18] at H
      exact absurd H (by simp)
    ·rw [if_neg c15] at H
     have c15b0 : decide (x5_1 < (wrap64 (1 + t356))) = false := decide_eq_false c15
     clear c15
     simp only [Option.some.injEq, Prod.mk.injEq] at H
     obtain ⟨rfl, rfl, rfl⟩ := H
     have hcv21 := own_string (P := Try.prog) Try.underlying22 Try.underlying5 Try.underlying9 (Kd.own_of_R HO_3.out)
     have hcw21 := fun nq_ : Nat => own_string (P := Try.prog) Try.underlying22 Try.underlying5 Try.underlying9 (Kd.own_of_R (Kd.R_drewN HO_3.out nq_))
     go_wp2
     go_ret
     exact ⟨Z7, Z55, Z56, Z57⟩

/-! ### spec_l04Some: function 84 -/
def spec_l04Some.f (k : Nat) (s0_0 : List Int) (s0_1 : Int) (s0_2 : Int) : Option (Int × ByteArray × Int × Bool × Int × Int × Int) := (spec_l01Below.f s0_0 s0_1 s0_2 8).bind fun bt367 => (if bt367.1 = 0 then ((spec_l04Int.f s0_0 bt367.2.1 bt367.2.2).bind fun bt370 => ((spec_l01Once.f s0_0 bt370.2.1 bt370.2.2 3).bind fun bt373 => (some (7, (⟨#[]⟩ : ByteArray), bt370.1, bt373.1, 0, bt373.2.1, bt373.2.2)))) else (if bt367.1 = 1 then ((spec_l04Int.f s0_0 bt367.2.1 bt367.2.2).bind fun bt376 => ((spec_l01Once.f s0_0 bt376.2.1 bt376.2.2 3).bind fun bt379 => (some (8, (⟨#[]⟩ : ByteArray), bt376.1, bt379.1, 0, bt379.2.1, bt379.2.2)))) else (if bt367.1 = 2 then ((spec_l01Pick.f s0_0 bt367.2.1 bt367.2.2 (([(⟨#[120]⟩ : ByteArray), (⟨#[97, 116]⟩ : ByteArray), (⟨#[113, 113, 113, 113]⟩ : ByteArray), (⟨#[116, 101, 110]⟩ : ByteArray)] : List ByteArray))).bind fun bt385 => ((spec_l04Int.f s0_0 bt385.2.1 bt385.2.2).bind fun bt388 => (some (9, bt385.1, bt388.1, false, 0, bt388.2.1, bt388.2.2)))) else ((spec_l01Below.f s0_0 bt367.2.1 bt367.2.2 6).bind fun bt391 => ((spec_l02Name.f k s0_0 bt391.2.1 bt391.2.2).bind fun bt394 => (some (wrap64 (1 + bt391.1), bt394.1, 0, false, 0, bt394.2.1, bt394.2.2)))))))
theorem spec_l04Some.mono : ∀ a0 a1 a2 k, LeO (spec_l04Some.f k a0 a1 a2) (spec_l04Some.f (k + 1) a0 a1 a2) := by
 intro a0 a1 a2 k
 unfold spec_l04Some.f
 repeat' first
   | (with_reducible exact spec_l02Name.mono _ _ _ _)
   | (with_reducible exact LeO.refl _)
   | (with_reducible exact LeO.none _)
   | (with_reducible refine LeO.ite ?_ ?_)
   | (with_reducible refine LeO.bind ?_ (fun _ => ?_))
   | exact spec_l02Name.mono _ _ _ _
   | exact LeO.none _
   | refine LeO.ite ?_ ?_
   | refine LeO.bind ?_ (fun _ => ?_)
set_option maxHeartbeats 8000000 in
set_option maxRecDepth 100000 in
theorem spec_l04Some.calls (k : Nat) (g : Nat) (s0_0 : List Int) (s0_1 : Int) (s0_2 : Int) (r1 : Int) (r2 : ByteArray) (r3 : Int) (r4 : Bool) (r5 : Int) (r6 : Int) (r7 : Int) (w0 w : World) (hI : IsS97 w0 w g s0_0 s0_1 s0_2) (hB : Below w0.heap.size w0 w) (h : spec_l04Some.f k s0_0 s0_1 s0_2 = some (r1, r2, r3, r4, r5, r6, r7)) :
  Calls Try.prog 84 #[.pointer (some ⟨g, 0, none⟩)] w fun e w' => e = .returned (.agg #[.int .i64 r1, .string r2, .int .i32 r3, .bool r4, .int .u32 r5]) ∧ IsS97 w0 w' g s0_0 r6 r7 ∧ Below w0.heap.size w0 w' ∧ KeepBut w w' g none := by
 have hu51 := Try.underlying51
 have HI0 := Aside0.mk hI
 have HK := Z (KeepBut.refl w g none)
 have HL := Aside0.mk hB.size
 clear hI
 have HW0 := Aside0.mk hB.size
 have HB := Aside0.mk hB
 clear hB
 have H : ((spec_l01Below.f s0_0 s0_1 s0_2 8).bind fun bt367 => (if bt367.1 = 0 then ((spec_l04Int.f s0_0 bt367.2.1 bt367.2.2).bind fun bt370 => ((spec_l01Once.f s0_0 bt370.2.1 bt370.2.2 3).bind fun bt373 => (some (7, (⟨#[]⟩ : ByteArray), bt370.1, bt373.1, 0, bt373.2.1, bt373.2.2)))) else (if bt367.1 = 1 then ((spec_l04Int.f s0_0 bt367.2.1 bt367.2.2).bind fun bt376 => ((spec_l01Once.f s0_0 bt376.2.1 bt376.2.2 3).bind fun bt379 => (some (8, (⟨#[]⟩ : ByteArray), bt376.1, bt379.1, 0, bt379.2.1, bt379.2.2)))) else (if bt367.1 = 2 then ((spec_l01Pick.f s0_0 bt367.2.1 bt367.2.2 (([(⟨#[120]⟩ : ByteArray), (⟨#[97, 116]⟩ : ByteArray), (⟨#[113, 113, 113, 113]⟩ : ByteArray), (⟨#[116, 101, 110]⟩ : ByteArray)] : List ByteArray))).bind fun bt385 => ((spec_l04Int.f s0_0 bt385.2.1 bt385.2.2).bind fun bt388 => (some (9, bt385.1, bt388.1, false, 0, bt388.2.1, bt388.2.2)))) else ((spec_l01Below.f s0_0 bt367.2.1 bt367.2.2 6).bind fun bt391 => ((spec_l02Name.f k s0_0 bt391.2.1 bt391.2.2).bind fun bt394 => (some (wrap64 (1 + bt391.1), bt394.1, 0, false, 0, bt394.2.1, bt394.2.2)))))))) = some (r1, r2, r3, r4, r5, r6, r7) := h
 clear h
 replace H := Option.bind_eq_some_iff.mp H
 obtain ⟨⟨t367, t368, t369⟩, A20, H⟩ := H
 replace H : (if t367 = 0 then ((spec_l04Int.f s0_0 t368 t369).bind fun bt370 => ((spec_l01Once.f s0_0 bt370.2.1 bt370.2.2 3).bind fun bt373 => (some (7, (⟨#[]⟩ : ByteArray), bt370.1, bt373.1, 0, bt373.2.1, bt373.2.2)))) else (if t367 = 1 then ((spec_l04Int.f s0_0 t368 t369).bind fun bt376 => ((spec_l01Once.f s0_0 bt376.2.1 bt376.2.2 3).bind fun bt379 => (some (8, (⟨#[]⟩ : ByteArray), bt376.1, bt379.1, 0, bt379.2.1, bt379.2.2)))) else (if t367 = 2 then ((spec_l01Pick.f s0_0 t368 t369 (([(⟨#[120]⟩ : ByteArray), (⟨#[97, 116]⟩ : ByteArray), (⟨#[113, 113, 113, 113]⟩ : ByteArray), (⟨#[116, 101, 110]⟩ : ByteArray)] : List ByteArray))).bind fun bt385 => ((spec_l04Int.f s0_0 bt385.2.1 bt385.2.2).bind fun bt388 => (some (9, bt385.1, bt388.1, false, 0, bt388.2.1, bt388.2.2)))) else ((spec_l01Below.f s0_0 t368 t369 6).bind fun bt391 => ((spec_l02Name.f k s0_0 bt391.2.1 bt391.2.2).bind fun bt394 => (some (wrap64 (1 + bt391.1), bt394.1, 0, false, 0, bt394.2.1, bt394.2.2))))))) = some (r1, r2, r3, r4, r5, r6, r7) := H
 have A2 := Aside0.mk A20
 clear A20
 by_cases c3 : t367 = 0
 ·rw [if_pos c3] at H
  have c3b0 : (t367 == 0) = true := beq_iff_eq.mpr c3
  have c3b1 : (t367 != 0) = false := bne_eq_false_iff_eq.mpr c3
  clear c3
  replace H := Option.bind_eq_some_iff.mp H
  obtain ⟨⟨t370, t371, t372⟩, A40, H⟩ := H
  replace H : ((spec_l01Once.f s0_0 t371 t372 3).bind fun bt373 => (some (7, (⟨#[]⟩ : ByteArray), t370, bt373.1, 0, bt373.2.1, bt373.2.2))) = some (r1, r2, r3, r4, r5, r6, r7) := H
  have A4 := Aside0.mk A40
  clear A40
  replace H := Option.bind_eq_some_iff.mp H
  obtain ⟨⟨t373, t374, t375⟩, A50, H⟩ := H
  replace H : (some (7, (⟨#[]⟩ : ByteArray), t370, t373, 0, t374, t375)) = some (r1, r2, r3, r4, r5, r6, r7) := H
  have A5 := Aside0.mk A50
  clear A50
  simp only [Option.some.injEq, Prod.mk.injEq] at H
  obtain ⟨rfl, rfl, rfl, rfl, rfl, rfl, rfl⟩ := H
  go_enter Try.func84, Try.ntmps84
  go_wp2_with (first | ((with_reducible refine gate_dst (N := 2) rfl ?_); refine box_event (by rfl) (N := 2) (by rfl) (cs := #[.int .i64 0, .string (⟨#[]⟩ : ByteArray), .int .i32 0, .bool false, .int .u32 0]) (t := 51) Z5 ?_; intro gb366 hg w6 hbox hb; replace HB := Z (below_step Z56 hb); have BK366 := Z (hbox); have GW366 := Z ((Z69 : w.heap.size ≤ gb366)); have GE366 := Z ((Nat.le_trans HW0.out (Z69 : w.heap.size ≤ gb366) : w0.heap.size ≤ gb366)); replace HK := Z (KeepBut.trans Z57 (KeepBut.of_below hb g none) (.inl rfl)); have NB0_366 := Z ((Z70 : g ≠ gb366)); have NB366_0 := Z ((Z71 : gb366 ≠ g)); replace HI0 := Z (IsS97.below Z55 hb); clear hb hbox hg) | ((with_reducible refine gate_callee (f := 73) rfl ?_); refine goesL_ (some 4) rfl rfl Try.func73 Z0 rfl #[.pointer (some ⟨g, 0, none⟩), .int .i64 8] rfl Z9 ?_; (with_reducible refine (spec_l01Below.calls g s0_0 s0_1 s0_2 8 t367 t368 t369 w0 _ ?side1 ?side2 A2.out).mono ?_); (case side1 => exact Z55); (case side2 => exact Z56); rintro e w7 ⟨rfl, hi, hb, hk⟩; refine ⟨_, rfl, ?_⟩; replace BK366 := Z (KeepBut.blk hk (g' := gb366) (o := .cells #[.int .i64 0, .string (⟨#[]⟩ : ByteArray), .int .i32 0, .bool false, .int .u32 0] 51 (0, 0)) (Z13 BK366) NB366_0.out (by simp)); replace HK := Z (KeepBut.trans Z57 hk (.inl rfl)); replace HB := Z (hb); replace HI0 := Z (hi); (try clear hb); (try clear hb2); (try clear hk); (try clear hi)) | ((with_reducible refine gate_callee (f := 111) rfl ?_); refine goesL_ (some 8) rfl rfl Try.func111 Z0 rfl #[.pointer (some ⟨g, 0, none⟩)] rfl Z9 ?_; (with_reducible refine (spec_l04Int.calls g s0_0 t368 t369 t370 t371 t372 w0 _ ?side1 ?side2 A4.out).mono ?_); (case side1 => exact Z55); (case side2 => exact Z56); rintro e w8 ⟨rfl, hi, hb, hk⟩; refine ⟨_, rfl, ?_⟩; replace BK366 := Z (KeepBut.blk hk (g' := gb366) (o := .cells #[.int .i64 0, .string (⟨#[]⟩ : ByteArray), .int .i32 0, .bool false, .int .u32 0] 51 (0, 0)) (Z13 BK366) NB366_0.out (by simp)); replace HK := Z (KeepBut.trans Z57 hk (.inl rfl)); replace HB := Z (hb); replace HI0 := Z (hi); (try clear hb); (try clear hb2); (try clear hk); (try clear hi)) | ((with_reducible refine gate_callee (f := 87) rfl ?_); refine goesL_ (some 10) rfl rfl Try.func87 Z0 rfl #[.pointer (some ⟨g, 0, none⟩), .int .i64 3] rfl Z9 ?_; (with_reducible refine (spec_l01Once.calls g s0_0 t371 t372 3 t373 t374 t375 w0 _ ?side1 ?side2 A5.out).mono ?_); (case side1 => exact Z55); (case side2 => exact Z56); rintro e w9 ⟨rfl, hi, hb, hk⟩; refine ⟨_, rfl, ?_⟩; replace BK366 := Z (KeepBut.blk hk (g' := gb366) (o := .cells #[.int .i64 0, .string (⟨#[]⟩ : ByteArray), .int .i32 0, .bool false, .int .u32 0] 51 (0, 0)) (Z13 BK366) NB366_0.out (by simp)); replace HK := Z (KeepBut.trans Z57 hk (.inl rfl)); replace HB := Z (hb); replace HI0 := Z (hi); (try clear hb); (try clear hb2); (try clear hk); (try clear hi); have hnb10 := NB366_0.out; have hnc10 := NB0_366.out; have hcz11_0 : w9.cell? ⟨gb366, 0, none⟩ = some (.int .i64 0) := (blk_cell BK366.out 0).trans rfl; have hcz11_1 : w9.cell? ⟨gb366, 1, none⟩ = some (.string (⟨#[]⟩ : ByteArray)) := (blk_cell BK366.out 1).trans rfl; have hcz11_2 : w9.cell? ⟨gb366, 2, none⟩ = some (.int .i32 0) := (blk_cell BK366.out 2).trans rfl; have hcz11_3 : w9.cell? ⟨gb366, 3, none⟩ = some (.bool false) := (blk_cell BK366.out 3).trans rfl; have hcz11_4 : w9.cell? ⟨gb366, 4, none⟩ = some (.int .u32 0) := (blk_cell BK366.out 4).trans rfl; have hfz11_0 := blk_frozen BK366.out 0; have hfz11_1 := blk_frozen BK366.out 1; have hfz11_2 := blk_frozen BK366.out 2; have hfz11_3 := blk_frozen BK366.out 3; have hfz11_4 := blk_frozen BK366.out 4))
  refine bodyPost_ret (results_cell_row rfl _ _ gb366 51 #[.int .i64 7, .string (⟨#[]⟩ : ByteArray), .int .i32 t370, .bool t373, .int .u32 0] (0, 0) _ rfl (by (with_reducible repeat (first | refine blk_drewN ?_ _ | refine blk_drew ?_ | refine blk_alloc ?_ _)); refine blk_put (cs := #[.int .i64 7, .string (⟨#[]⟩ : ByteArray), .int .i32 t370, .bool t373, .int .u32 0]) ?_ 4 _ rfl; (with_reducible repeat (first | refine blk_drewN ?_ _ | refine blk_drew ?_ | refine blk_alloc ?_ _)); refine blk_put (cs := #[.int .i64 7, .string (⟨#[]⟩ : ByteArray), .int .i32 t370, .bool false, .int .u32 0]) ?_ 3 _ rfl; (with_reducible repeat (first | refine blk_drewN ?_ _ | refine blk_drew ?_ | refine blk_alloc ?_ _)); refine blk_put (cs := #[.int .i64 7, .string (⟨#[]⟩ : ByteArray), .int .i32 0, .bool false, .int .u32 0]) ?_ 2 _ rfl; (with_reducible repeat (first | refine blk_drewN ?_ _ | refine blk_drew ?_ | refine blk_alloc ?_ _)); refine blk_put (cs := #[.int .i64 7, .string (⟨#[]⟩ : ByteArray), .int .i32 0, .bool false, .int .u32 0]) ?_ 1 _ rfl; (with_reducible repeat (first | refine blk_drewN ?_ _ | refine blk_drew ?_ | refine blk_alloc ?_ _)); refine blk_put (cs := #[.int .i64 0, .string (⟨#[]⟩ : ByteArray), .int .i32 0, .bool false, .int .u32 0]) ?_ 0 _ rfl; (with_reducible repeat (first | refine blk_drewN ?_ _ | refine blk_drew ?_ | refine blk_alloc ?_ _)); exact BK366.out) Try.underlying51 rfl Z0) rfl ?_
  exact ⟨Z7, Z55, Z56, Z57⟩
 ·rw [if_neg c3] at H
  have c3b0 : (t367 == 0) = false := beq_eq_false_iff_ne.mpr c3
  have c3b1 : (t367 != 0) = true := bne_iff_ne.mpr c3
  by_cases c12 : t367 = 1
  ·rw [if_pos c12] at H
   have c12b0 : (t367 == 1) = true := beq_iff_eq.mpr c12
   have c12b1 : (t367 != 1) = false := bne_eq_false_iff_eq.mpr c12
   clear c12
   replace H := Option.bind_eq_some_iff.mp H
   obtain ⟨⟨t376, t377, t378⟩, A130, H⟩ := H
   replace H : ((spec_l01Once.f s0_0 t377 t378 3).bind fun bt379 => (some (8, (⟨#[]⟩ : ByteArray), t376, bt379.1, 0, bt379.2.1, bt379.2.2))) = some (r1, r2, r3, r4, r5, r6, r7) := H
   have A13 := Aside0.mk A130
   clear A130
   replace H := Option.bind_eq_some_iff.mp H
   obtain ⟨⟨t379, t380, t381⟩, A140, H⟩ := H
   replace H : (some (8, (⟨#[]⟩ : ByteArray), t376, t379, 0, t380, t381)) = some (r1, r2, r3, r4, r5, r6, r7) := H
   have A14 := Aside0.mk A140
   clear A140
   simp only [Option.some.injEq, Prod.mk.injEq] at H
   obtain ⟨rfl, rfl, rfl, rfl, rfl, rfl, rfl⟩ := H
   go_enter Try.func84, Try.ntmps84
   go_wp2_with (first | ((with_reducible refine gate_dst (N := 2) rfl ?_); refine box_event (by rfl) (N := 2) (by rfl) (cs := #[.int .i64 0, .string (⟨#[]⟩ : ByteArray), .int .i32 0, .bool false, .int .u32 0]) (t := 51) Z5 ?_; intro gb366 hg w15 hbox hb; replace HB := Z (below_step Z56 hb); have BK366 := Z (hbox); have GW366 := Z ((Z69 : w.heap.size ≤ gb366)); have GE366 := Z ((Nat.le_trans HW0.out (Z69 : w.heap.size ≤ gb366) : w0.heap.size ≤ gb366)); replace HK := Z (KeepBut.trans Z57 (KeepBut.of_below hb g none) (.inl rfl)); have NB0_366 := Z ((Z70 : g ≠ gb366)); have NB366_0 := Z ((Z71 : gb366 ≠ g)); replace HI0 := Z (IsS97.below Z55 hb); clear hb hbox hg) | ((with_reducible refine gate_callee (f := 73) rfl ?_); refine goesL_ (some 4) rfl rfl Try.func73 Z0 rfl #[.pointer (some ⟨g, 0, none⟩), .int .i64 8] rfl Z9 ?_; (with_reducible refine (spec_l01Below.calls g s0_0 s0_1 s0_2 8 t367 t368 t369 w0 _ ?side1 ?side2 A2.out).mono ?_); (case side1 => exact Z55); (case side2 => exact Z56); rintro e w16 ⟨rfl, hi, hb, hk⟩; refine ⟨_, rfl, ?_⟩; replace BK366 := Z (KeepBut.blk hk (g' := gb366) (o := .cells #[.int .i64 0, .string (⟨#[]⟩ : ByteArray), .int .i32 0, .bool false, .int .u32 0] 51 (0, 0)) (Z13 BK366) NB366_0.out (by simp)); replace HK := Z (KeepBut.trans Z57 hk (.inl rfl)); replace HB := Z (hb); replace HI0 := Z (hi); (try clear hb); (try clear hb2); (try clear hk); (try clear hi)) | ((with_reducible refine gate_callee (f := 111) rfl ?_); refine goesL_ (some 15) rfl rfl Try.func111 Z0 rfl #[.pointer (some ⟨g, 0, none⟩)] rfl Z9 ?_; (with_reducible refine (spec_l04Int.calls g s0_0 t368 t369 t376 t377 t378 w0 _ ?side1 ?side2 A13.out).mono ?_); (case side1 => exact Z55); (case side2 => exact Z56); rintro e w17 ⟨rfl, hi, hb, hk⟩; refine ⟨_, rfl, ?_⟩; replace BK366 := Z (KeepBut.blk hk (g' := gb366) (o := .cells #[.int .i64 0, .string (⟨#[]⟩ : ByteArray), .int .i32 0, .bool false, .int .u32 0] 51 (0, 0)) (Z13 BK366) NB366_0.out (by simp)); replace HK := Z (KeepBut.trans Z57 hk (.inl rfl)); replace HB := Z (hb); replace HI0 := Z (hi); (try clear hb); (try clear hb2); (try clear hk); (try clear hi)) | ((with_reducible refine gate_callee (f := 87) rfl ?_); refine goesL_ (some 17) rfl rfl Try.func87 Z0 rfl #[.pointer (some ⟨g, 0, none⟩), .int .i64 3] rfl Z9 ?_; (with_reducible refine (spec_l01Once.calls g s0_0 t377 t378 3 t379 t380 t381 w0 _ ?side1 ?side2 A14.out).mono ?_); (case side1 => exact Z55); (case side2 => exact Z56); rintro e w18 ⟨rfl, hi, hb, hk⟩; refine ⟨_, rfl, ?_⟩; replace BK366 := Z (KeepBut.blk hk (g' := gb366) (o := .cells #[.int .i64 0, .string (⟨#[]⟩ : ByteArray), .int .i32 0, .bool false, .int .u32 0] 51 (0, 0)) (Z13 BK366) NB366_0.out (by simp)); replace HK := Z (KeepBut.trans Z57 hk (.inl rfl)); replace HB := Z (hb); replace HI0 := Z (hi); (try clear hb); (try clear hb2); (try clear hk); (try clear hi); have hnb19 := NB366_0.out; have hnc19 := NB0_366.out; have hcz20_0 : w18.cell? ⟨gb366, 0, none⟩ = some (.int .i64 0) := (blk_cell BK366.out 0).trans rfl; have hcz20_1 : w18.cell? ⟨gb366, 1, none⟩ = some (.string (⟨#[]⟩ : ByteArray)) := (blk_cell BK366.out 1).trans rfl; have hcz20_2 : w18.cell? ⟨gb366, 2, none⟩ = some (.int .i32 0) := (blk_cell BK366.out 2).trans rfl; have hcz20_3 : w18.cell? ⟨gb366, 3, none⟩ = some (.bool false) := (blk_cell BK366.out 3).trans rfl; have hcz20_4 : w18.cell? ⟨gb366, 4, none⟩ = some (.int .u32 0) := (blk_cell BK366.out 4).trans rfl; have hfz20_0 := blk_frozen BK366.out 0; have hfz20_1 := blk_frozen BK366.out 1; have hfz20_2 := blk_frozen BK366.out 2; have hfz20_3 := blk_frozen BK366.out 3; have hfz20_4 := blk_frozen BK366.out 4))
   refine bodyPost_ret (results_cell_row rfl _ _ gb366 51 #[.int .i64 8, .string (⟨#[]⟩ : ByteArray), .int .i32 t376, .bool t379, .int .u32 0] (0, 0) _ rfl (by (with_reducible repeat (first | refine blk_drewN ?_ _ | refine blk_drew ?_ | refine blk_alloc ?_ _)); refine blk_put (cs := #[.int .i64 8, .string (⟨#[]⟩ : ByteArray), .int .i32 t376, .bool t379, .int .u32 0]) ?_ 4 _ rfl; (with_reducible repeat (first | refine blk_drewN ?_ _ | refine blk_drew ?_ | refine blk_alloc ?_ _)); refine blk_put (cs := #[.int .i64 8, .string (⟨#[]⟩ : ByteArray), .int .i32 t376, .bool false, .int .u32 0]) ?_ 3 _ rfl; (with_reducible repeat (first | refine blk_drewN ?_ _ | refine blk_drew ?_ | refine blk_alloc ?_ _)); refine blk_put (cs := #[.int .i64 8, .string (⟨#[]⟩ : ByteArray), .int .i32 0, .bool false, .int .u32 0]) ?_ 2 _ rfl; (with_reducible repeat (first | refine blk_drewN ?_ _ | refine blk_drew ?_ | refine blk_alloc ?_ _)); refine blk_put (cs := #[.int .i64 8, .string (⟨#[]⟩ : ByteArray), .int .i32 0, .bool false, .int .u32 0]) ?_ 1 _ rfl; (with_reducible repeat (first | refine blk_drewN ?_ _ | refine blk_drew ?_ | refine blk_alloc ?_ _)); refine blk_put (cs := #[.int .i64 0, .string (⟨#[]⟩ : ByteArray), .int .i32 0, .bool false, .int .u32 0]) ?_ 0 _ rfl; (with_reducible repeat (first | refine blk_drewN ?_ _ | refine blk_drew ?_ | refine blk_alloc ?_ _)); exact BK366.out) Try.underlying51 rfl Z0) rfl ?_
   exact ⟨Z7, Z55, Z56, Z57⟩
  ·rw [if_neg c12] at H
   have c12b0 : (t367 == 1) = false := beq_eq_false_iff_ne.mpr c12
   have c12b1 : (t367 != 1) = true := bne_iff_ne.mpr c12
   by_cases c21 : t367 = 2
   ·rw [if_pos c21] at H
    have c21b0 : (t367 == 2) = true := beq_iff_eq.mpr c21
    have c21b1 : (t367 != 2) = false := bne_eq_false_iff_eq.mpr c21
    clear c21
    obtain ⟨y382, hy382⟩ : ∃ y_ : List ByteArray, y_ = (([(⟨#[120]⟩ : ByteArray), (⟨#[97, 116]⟩ : ByteArray), (⟨#[113, 113, 113, 113]⟩ : ByteArray), (⟨#[116, 101, 110]⟩ : ByteArray)] : List ByteArray)) := ⟨_, rfl⟩
    replace H : ((spec_l01Pick.f s0_0 t368 t369 y382).bind fun bt385 => ((spec_l04Int.f s0_0 bt385.2.1 bt385.2.2).bind fun bt388 => (some (9, bt385.1, bt388.1, false, 0, bt388.2.1, bt388.2.2)))) = some (r1, r2, r3, r4, r5, r6, r7) := by first | (rw [hy382]; with_reducible exact H) | (have H2_ := (Option.bind_some _ _).symm.trans H; rw [hy382]; with_reducible exact H2_) | (have H2_ := (Option.bind_some _ _).symm.trans H; with_reducible exact H2_) | with_reducible exact H | (rw [hy382]; exact H) | exact H
    have Ny382 := Aside0.mk hy382
    clear hy382
    replace H := Option.bind_eq_some_iff.mp H
    obtain ⟨⟨t385, t386, t387⟩, A220, H⟩ := H
    replace H : ((spec_l04Int.f s0_0 t386 t387).bind fun bt388 => (some (9, t385, bt388.1, false, 0, bt388.2.1, bt388.2.2))) = some (r1, r2, r3, r4, r5, r6, r7) := H
    have A22 := Aside0.mk A220
    clear A220
    replace H := Option.bind_eq_some_iff.mp H
    obtain ⟨⟨t388, t389, t390⟩, A230, H⟩ := H
    replace H : (some (9, t385, t388, false, 0, t389, t390)) = some (r1, r2, r3, r4, r5, r6, r7) := H
    have A23 := Aside0.mk A230
    clear A230
    simp only [Option.some.injEq, Prod.mk.injEq] at H
    obtain ⟨rfl, rfl, rfl, rfl, rfl, rfl, rfl⟩ := H
    go_enter Try.func84, Try.ntmps84
    go_wp2_with (first | ((with_reducible refine gate_dst (N := 2) rfl ?_); refine box_event (by rfl) (N := 2) (by rfl) (cs := #[.int .i64 0, .string (⟨#[]⟩ : ByteArray), .int .i32 0, .bool false, .int .u32 0]) (t := 51) Z5 ?_; intro gb366 hg w24 hbox hb; replace HB := Z (below_step Z56 hb); have BK366 := Z (hbox); have GW366 := Z ((Z69 : w.heap.size ≤ gb366)); have GE366 := Z ((Nat.le_trans HW0.out (Z69 : w.heap.size ≤ gb366) : w0.heap.size ≤ gb366)); replace HK := Z (KeepBut.trans Z57 (KeepBut.of_below hb g none) (.inl rfl)); have NB0_366 := Z ((Z70 : g ≠ gb366)); have NB366_0 := Z ((Z71 : gb366 ≠ g)); replace HI0 := Z (IsS97.below Z55 hb); clear hb hbox hg) | ((with_reducible refine gate_callee (f := 73) rfl ?_); refine goesL_ (some 4) rfl rfl Try.func73 Z0 rfl #[.pointer (some ⟨g, 0, none⟩), .int .i64 8] rfl Z9 ?_; (with_reducible refine (spec_l01Below.calls g s0_0 s0_1 s0_2 8 t367 t368 t369 w0 _ ?side1 ?side2 A2.out).mono ?_); (case side1 => exact Z55); (case side2 => exact Z56); rintro e w25 ⟨rfl, hi, hb, hk⟩; refine ⟨_, rfl, ?_⟩; replace BK366 := Z (KeepBut.blk hk (g' := gb366) (o := .cells #[.int .i64 0, .string (⟨#[]⟩ : ByteArray), .int .i32 0, .bool false, .int .u32 0] 51 (0, 0)) (Z13 BK366) NB366_0.out (by simp)); replace HK := Z (KeepBut.trans Z57 hk (.inl rfl)); replace HB := Z (hb); replace HI0 := Z (hi); (try clear hb); (try clear hb2); (try clear hk); (try clear hi)) | ((with_reducible refine gate_dst (N := 22) rfl ?_); refine Kd.R_lit Kd.string _ 9 (by rfl) (N := 22) (by rfl) (xs := ([(⟨#[120]⟩ : ByteArray), (⟨#[97, 116]⟩ : ByteArray), (⟨#[113, 113, 113, 113]⟩ : ByteArray), (⟨#[116, 101, 110]⟩ : ByteArray)] : List ByteArray)) (inner := [.string (⟨#[120]⟩ : ByteArray), .string (⟨#[97, 116]⟩ : ByteArray), .string (⟨#[113, 113, 113, 113]⟩ : ByteArray), .string (⟨#[116, 101, 110]⟩ : ByteArray)]) (ok := fun _ => True) (okp := fun _ => True) Z5 (Reps.one (show Kd.M Kd.string _ _ _ (⟨#[120]⟩ : ByteArray) [.string (⟨#[120]⟩ : ByteArray)] from rfl) (Reps.one (show Kd.M Kd.string _ _ _ (⟨#[97, 116]⟩ : ByteArray) [.string (⟨#[97, 116]⟩ : ByteArray)] from rfl) (Reps.one (show Kd.M Kd.string _ _ _ (⟨#[113, 113, 113, 113]⟩ : ByteArray) [.string (⟨#[113, 113, 113, 113]⟩ : ByteArray)] from rfl) (Reps.one (show Kd.M Kd.string _ _ _ (⟨#[116, 101, 110]⟩ : ByteArray) [.string (⟨#[116, 101, 110]⟩ : ByteArray)] from rfl) (Reps.none _ _))))) (fun _ hk => hk) trivial (Below.refl _ _) (Nat.le_refl _) (by simp) ?_; intro v383 w26 ho27 hb hg_ hnew_; clear hg_ hnew_; (first | rw [← Ny382.out] at ho27 | (simp only [Int.reduceToNat] at ho27; rw [← Ny382.out] at ho27)); have HO384 := Z (Kd.R_lower ho27 (keep_size (w := w) (g := g) (row := none) Z57)); replace BK366 := Z (blk_below (g := gb366) (o := .cells #[.int .i64 0, .string (⟨#[]⟩ : ByteArray), .int .i32 0, .bool false, .int .u32 0] 51 (0, 0)) (Z13 BK366) hb); replace HK := Z (KeepBut.trans Z57 (KeepBut.of_below hb g none) (.inl rfl)); replace HB := Z (below_step Z56 hb); replace HI0 := Z (IsS97.below Z55 hb); clear hb ho27; obtain ⟨Ao28, co28, eo28⟩ := Kd.R_slice HO384.out; subst eo28) | ((with_reducible refine gate_callee (f := 105) rfl ?_); refine goesL_ (some 23) rfl rfl Try.func105 Z0 rfl #[.pointer (some ⟨g, 0, none⟩), .slice Ao28 y382.length co28] rfl Z9 ?_; (with_reducible refine (spec_l01Pick.calls g s0_0 t368 t369 _ _ y382 t385 t386 t387 w0 _ ?side1 ?side2 ?side3 ?side4 ?side5 A22.out).mono ?_); (case side1 => exact Z55); (case side2 => exact Z56); (case side3 => exact (Z28 HO384)); (case side4 => exact (Kd.R_reads' HO384.out).2.1); (case side5 => exact far_slice (IsS97.own_ne HI0.out HO384.out (by decide))); rintro e w29 ⟨rfl, hi, hb, hk⟩; refine ⟨_, rfl, ?_⟩; replace BK366 := Z (KeepBut.blk hk (g' := gb366) (o := .cells #[.int .i64 0, .string (⟨#[]⟩ : ByteArray), .int .i32 0, .bool false, .int .u32 0] 51 (0, 0)) (Z13 BK366) NB366_0.out (by simp)); replace HO384 := Z (Kd.R_mono (Kd.R_keep (IsS97.apart (show IsS97 w0 _ g s0_0 t368 t369 from Z55) (Z8 HO384) (by decide)) hk (fun _ h => h.2)) (fun _ h => h.1)); replace HK := Z (KeepBut.trans Z57 hk (.inl rfl)); replace HB := Z (hb); replace HI0 := Z (hi); (try clear hb); (try clear hb2); (try clear hk); (try clear hi)) | ((with_reducible refine gate_callee (f := 111) rfl ?_); refine goesL_ (some 25) rfl rfl Try.func111 Z0 rfl #[.pointer (some ⟨g, 0, none⟩)] rfl Z9 ?_; (with_reducible refine (spec_l04Int.calls g s0_0 t386 t387 t388 t389 t390 w0 _ ?side1 ?side2 A23.out).mono ?_); (case side1 => exact Z55); (case side2 => exact Z56); rintro e w30 ⟨rfl, hi, hb, hk⟩; refine ⟨_, rfl, ?_⟩; replace BK366 := Z (KeepBut.blk hk (g' := gb366) (o := .cells #[.int .i64 0, .string (⟨#[]⟩ : ByteArray), .int .i32 0, .bool false, .int .u32 0] 51 (0, 0)) (Z13 BK366) NB366_0.out (by simp)); replace HO384 := Z (Kd.R_mono (Kd.R_keep (IsS97.apart (show IsS97 w0 _ g s0_0 t386 t387 from Z55) (Z8 HO384) (by decide)) hk (fun _ h => h.2)) (fun _ h => h.1)); replace HK := Z (KeepBut.trans Z57 hk (.inl rfl)); replace HB := Z (hb); replace HI0 := Z (hi); (try clear hb); (try clear hb2); (try clear hk); (try clear hi); have hnb31 := NB366_0.out; have hnc31 := NB0_366.out; have hcz32_0 : w30.cell? ⟨gb366, 0, none⟩ = some (.int .i64 0) := (blk_cell BK366.out 0).trans rfl; have hcz32_1 : w30.cell? ⟨gb366, 1, none⟩ = some (.string (⟨#[]⟩ : ByteArray)) := (blk_cell BK366.out 1).trans rfl; have hcz32_2 : w30.cell? ⟨gb366, 2, none⟩ = some (.int .i32 0) := (blk_cell BK366.out 2).trans rfl; have hcz32_3 : w30.cell? ⟨gb366, 3, none⟩ = some (.bool false) := (blk_cell BK366.out 3).trans rfl; have hcz32_4 : w30.cell? ⟨gb366, 4, none⟩ = some (.int .u32 0) := (blk_cell BK366.out 4).trans rfl; have hfz32_0 := blk_frozen BK366.out 0; have hfz32_1 := blk_frozen BK366.out 1; have hfz32_2 := blk_frozen BK366.out 2; have hfz32_3 := blk_frozen BK366.out 3; have hfz32_4 := blk_frozen BK366.out 4))
    refine bodyPost_ret (results_cell_row rfl _ _ gb366 51 #[.int .i64 9, .string t385, .int .i32 t388, .bool false, .int .u32 0] (0, 0) _ rfl (by (with_reducible repeat (first | refine blk_drewN ?_ _ | refine blk_drew ?_ | refine blk_alloc ?_ _)); refine blk_put (cs := #[.int .i64 9, .string t385, .int .i32 t388, .bool false, .int .u32 0]) ?_ 4 _ rfl; (with_reducible repeat (first | refine blk_drewN ?_ _ | refine blk_drew ?_ | refine blk_alloc ?_ _)); refine blk_put (cs := #[.int .i64 9, .string t385, .int .i32 t388, .bool false, .int .u32 0]) ?_ 3 _ rfl; (with_reducible repeat (first | refine blk_drewN ?_ _ | refine blk_drew ?_ | refine blk_alloc ?_ _)); refine blk_put (cs := #[.int .i64 9, .string t385, .int .i32 0, .bool false, .int .u32 0]) ?_ 2 _ rfl; (with_reducible repeat (first | refine blk_drewN ?_ _ | refine blk_drew ?_ | refine blk_alloc ?_ _)); refine blk_put (cs := #[.int .i64 9, .string (⟨#[]⟩ : ByteArray), .int .i32 0, .bool false, .int .u32 0]) ?_ 1 _ rfl; (with_reducible repeat (first | refine blk_drewN ?_ _ | refine blk_drew ?_ | refine blk_alloc ?_ _)); refine blk_put (cs := #[.int .i64 0, .string (⟨#[]⟩ : ByteArray), .int .i32 0, .bool false, .int .u32 0]) ?_ 0 _ rfl; (with_reducible repeat (first | refine blk_drewN ?_ _ | refine blk_drew ?_ | refine blk_alloc ?_ _)); exact BK366.out) Try.underlying51 rfl Z0) rfl ?_
    exact ⟨Z7, Z55, Z56, Z57⟩
   ·rw [if_neg c21] at H
    have c21b0 : (t367 == 2) = false := beq_eq_false_iff_ne.mpr c21
    have c21b1 : (t367 != 2) = true := bne_iff_ne.mpr c21
    replace H := Option.bind_eq_some_iff.mp H
    obtain ⟨⟨t391, t392, t393⟩, A330, H⟩ := H
    replace H : ((spec_l02Name.f k s0_0 t392 t393).bind fun bt394 => (some (wrap64 (1 + t391), bt394.1, 0, false, 0, bt394.2.1, bt394.2.2))) = some (r1, r2, r3, r4, r5, r6, r7) := H
    have A33 := Aside0.mk A330
    clear A330
    replace H := Option.bind_eq_some_iff.mp H
    obtain ⟨⟨t394, t395, t396⟩, A340, H⟩ := H
    replace H : (some (wrap64 (1 + t391), t394, 0, false, 0, t395, t396)) = some (r1, r2, r3, r4, r5, r6, r7) := H
    have A34 := Aside0.mk A340
    clear A340
    simp only [Option.some.injEq, Prod.mk.injEq] at H
    obtain ⟨rfl, rfl, rfl, rfl, rfl, rfl, rfl⟩ := H
    go_enter Try.func84, Try.ntmps84
    go_wp2_with (first | ((with_reducible refine gate_dst (N := 2) rfl ?_); refine box_event (by rfl) (N := 2) (by rfl) (cs := #[.int .i64 0, .string (⟨#[]⟩ : ByteArray), .int .i32 0, .bool false, .int .u32 0]) (t := 51) Z5 ?_; intro gb366 hg w35 hbox hb; replace HB := Z (below_step Z56 hb); have BK366 := Z (hbox); have GW366 := Z ((Z69 : w.heap.size ≤ gb366)); have GE366 := Z ((Nat.le_trans HW0.out (Z69 : w.heap.size ≤ gb366) : w0.heap.size ≤ gb366)); replace HK := Z (KeepBut.trans Z57 (KeepBut.of_below hb g none) (.inl rfl)); have NB0_366 := Z ((Z70 : g ≠ gb366)); have NB366_0 := Z ((Z71 : gb366 ≠ g)); replace HI0 := Z (IsS97.below Z55 hb); clear hb hbox hg) | ((with_reducible refine gate_callee (f := 73) rfl ?_); refine goesL_ (some 4) rfl rfl Try.func73 Z0 rfl #[.pointer (some ⟨g, 0, none⟩), .int .i64 8] rfl Z9 ?_; (with_reducible refine (spec_l01Below.calls g s0_0 s0_1 s0_2 8 t367 t368 t369 w0 _ ?side1 ?side2 A2.out).mono ?_); (case side1 => exact Z55); (case side2 => exact Z56); rintro e w36 ⟨rfl, hi, hb, hk⟩; refine ⟨_, rfl, ?_⟩; replace BK366 := Z (KeepBut.blk hk (g' := gb366) (o := .cells #[.int .i64 0, .string (⟨#[]⟩ : ByteArray), .int .i32 0, .bool false, .int .u32 0] 51 (0, 0)) (Z13 BK366) NB366_0.out (by simp)); replace HK := Z (KeepBut.trans Z57 hk (.inl rfl)); replace HB := Z (hb); replace HI0 := Z (hi); (try clear hb); (try clear hb2); (try clear hk); (try clear hi)) | ((with_reducible refine gate_callee (f := 73) rfl ?_); refine goesL_ (some 28) rfl rfl Try.func73 Z0 rfl #[.pointer (some ⟨g, 0, none⟩), .int .i64 6] rfl Z9 ?_; (with_reducible refine (spec_l01Below.calls g s0_0 t368 t369 6 t391 t392 t393 w0 _ ?side1 ?side2 A33.out).mono ?_); (case side1 => exact Z55); (case side2 => exact Z56); rintro e w37 ⟨rfl, hi, hb, hk⟩; refine ⟨_, rfl, ?_⟩; replace BK366 := Z (KeepBut.blk hk (g' := gb366) (o := .cells #[.int .i64 0, .string (⟨#[]⟩ : ByteArray), .int .i32 0, .bool false, .int .u32 0] 51 (0, 0)) (Z13 BK366) NB366_0.out (by simp)); replace HK := Z (KeepBut.trans Z57 hk (.inl rfl)); replace HB := Z (hb); replace HI0 := Z (hi); (try clear hb); (try clear hb2); (try clear hk); (try clear hi)) | ((with_reducible refine gate_callee (f := 112) rfl ?_); refine goesL_ (some 31) rfl rfl Try.func112 Z0 rfl #[.pointer (some ⟨g, 0, none⟩)] rfl Z9 ?_; (with_reducible refine (spec_l02Name.calls k g s0_0 t392 t393 t394 t395 t396 w0 _ ?side1 ?side2 A34.out).mono ?_); (case side1 => exact Z55); (case side2 => exact Z56); rintro e w38 ⟨rfl, hi, hb, hk⟩; refine ⟨_, rfl, ?_⟩; replace BK366 := Z (KeepBut.blk hk (g' := gb366) (o := .cells #[.int .i64 0, .string (⟨#[]⟩ : ByteArray), .int .i32 0, .bool false, .int .u32 0] 51 (0, 0)) (Z13 BK366) NB366_0.out (by simp)); replace HK := Z (KeepBut.trans Z57 hk (.inl rfl)); replace HB := Z (hb); replace HI0 := Z (hi); (try clear hb); (try clear hb2); (try clear hk); (try clear hi); have hnb39 := NB366_0.out; have hnc39 := NB0_366.out; have hcz40_0 : w38.cell? ⟨gb366, 0, none⟩ = some (.int .i64 0) := (blk_cell BK366.out 0).trans rfl; have hcz40_1 : w38.cell? ⟨gb366, 1, none⟩ = some (.string (⟨#[]⟩ : ByteArray)) := (blk_cell BK366.out 1).trans rfl; have hcz40_2 : w38.cell? ⟨gb366, 2, none⟩ = some (.int .i32 0) := (blk_cell BK366.out 2).trans rfl; have hcz40_3 : w38.cell? ⟨gb366, 3, none⟩ = some (.bool false) := (blk_cell BK366.out 3).trans rfl; have hcz40_4 : w38.cell? ⟨gb366, 4, none⟩ = some (.int .u32 0) := (blk_cell BK366.out 4).trans rfl; have hfz40_0 := blk_frozen BK366.out 0; have hfz40_1 := blk_frozen BK366.out 1; have hfz40_2 := blk_frozen BK366.out 2; have hfz40_3 := blk_frozen BK366.out 3; have hfz40_4 := blk_frozen BK366.out 4))
    refine bodyPost_ret (results_cell_row rfl _ _ gb366 51 #[.int .i64 (wrap64 (1 + t391)), .string t394, .int .i32 0, .bool false, .int .u32 0] (0, 0) _ rfl (by (with_reducible repeat (first | refine blk_drewN ?_ _ | refine blk_drew ?_ | refine blk_alloc ?_ _)); refine blk_put (cs := #[.int .i64 (wrap64 (1 + t391)), .string t394, .int .i32 0, .bool false, .int .u32 0]) ?_ 4 _ rfl; (with_reducible repeat (first | refine blk_drewN ?_ _ | refine blk_drew ?_ | refine blk_alloc ?_ _)); refine blk_put (cs := #[.int .i64 (wrap64 (1 + t391)), .string t394, .int .i32 0, .bool false, .int .u32 0]) ?_ 3 _ rfl; (with_reducible repeat (first | refine blk_drewN ?_ _ | refine blk_drew ?_ | refine blk_alloc ?_ _)); refine blk_put (cs := #[.int .i64 (wrap64 (1 + t391)), .string t394, .int .i32 0, .bool false, .int .u32 0]) ?_ 2 _ rfl; (with_reducible repeat (first | refine blk_drewN ?_ _ | refine blk_drew ?_ | refine blk_alloc ?_ _)); refine blk_put (cs := #[.int .i64 (wrap64 (1 + t391)), .string (⟨#[]⟩ : ByteArray), .int .i32 0, .bool false, .int .u32 0]) ?_ 1 _ rfl; (with_reducible repeat (first | refine blk_drewN ?_ _ | refine blk_drew ?_ | refine blk_alloc ?_ _)); refine blk_put (cs := #[.int .i64 0, .string (⟨#[]⟩ : ByteArray), .int .i32 0, .bool false, .int .u32 0]) ?_ 0 _ rfl; (with_reducible repeat (first | refine blk_drewN ?_ _ | refine blk_drew ?_ | refine blk_alloc ?_ _)); exact BK366.out) Try.underlying51 rfl Z0) rfl ?_
    exact ⟨Z7, Z55, Z56, Z57⟩

/-! ### spec_l01Word: function 85 -/
def spec_l01Word.f (s0_0 : List Int) (s0_1 : Int) (s0_2 : Int) : Option (Int × Int × Int) := (spec_l01Below.f s0_0 s0_1 s0_2 4).bind fun bt397 => (if bt397.1 = 0 then ((spec_l01PickInt.f s0_0 bt397.2.1 bt397.2.2 (([0, 1, 2, 31, 32, 255, 256, 2147483647, 2147483648, 4294967295, 4294967294] : List Int))).bind fun bt403 => (some ((bt403.1) % 4294967296, bt403.2.1, bt403.2.2))) else (if bt397.1 = 1 then ((spec_l01Below.f s0_0 bt397.2.1 bt397.2.2 300).bind fun bt406 => (some ((bt406.1) % 4294967296, bt406.2.1, bt406.2.2))) else ((spec_l01Below.f s0_0 bt397.2.1 bt397.2.2 65536).bind fun bt409 => ((spec_l01Below.f s0_0 bt409.2.1 bt409.2.2 65536).bind fun bt412 => (some ((((((bt409.1) % 4294967296) * 65536) % 4294967296) + ((bt412.1) % 4294967296)) % 4294967296, bt412.2.1, bt412.2.2))))))
set_option maxHeartbeats 8000000 in
set_option maxRecDepth 100000 in
theorem spec_l01Word.calls (g : Nat) (s0_0 : List Int) (s0_1 : Int) (s0_2 : Int) (r1 : Int) (r2 : Int) (r3 : Int) (w0 w : World) (hI : IsS97 w0 w g s0_0 s0_1 s0_2) (hB : Below w0.heap.size w0 w) (h : spec_l01Word.f s0_0 s0_1 s0_2 = some (r1, r2, r3)) :
  Calls Try.prog 85 #[.pointer (some ⟨g, 0, none⟩)] w fun e w' => e = .returned (.int .u32 r1) ∧ IsS97 w0 w' g s0_0 r2 r3 ∧ Below w0.heap.size w0 w' ∧ KeepBut w w' g none := by
 have HI0 := Aside0.mk hI
 have HK := Z (KeepBut.refl w g none)
 have HL := Aside0.mk hB.size
 clear hI
 have HW0 := Aside0.mk hB.size
 have HB := Aside0.mk hB
 clear hB
 have H : ((spec_l01Below.f s0_0 s0_1 s0_2 4).bind fun bt397 => (if bt397.1 = 0 then ((spec_l01PickInt.f s0_0 bt397.2.1 bt397.2.2 (([0, 1, 2, 31, 32, 255, 256, 2147483647, 2147483648, 4294967295, 4294967294] : List Int))).bind fun bt403 => (some ((bt403.1) % 4294967296, bt403.2.1, bt403.2.2))) else (if bt397.1 = 1 then ((spec_l01Below.f s0_0 bt397.2.1 bt397.2.2 300).bind fun bt406 => (some ((bt406.1) % 4294967296, bt406.2.1, bt406.2.2))) else ((spec_l01Below.f s0_0 bt397.2.1 bt397.2.2 65536).bind fun bt409 => ((spec_l01Below.f s0_0 bt409.2.1 bt409.2.2 65536).bind fun bt412 => (some ((((((bt409.1) % 4294967296) * 65536) % 4294967296) + ((bt412.1) % 4294967296)) % 4294967296, bt412.2.1, bt412.2.2))))))) = some (r1, r2, r3) := h
 clear h
 replace H := Option.bind_eq_some_iff.mp H
 obtain ⟨⟨t397, t398, t399⟩, A20, H⟩ := H
 replace H : (if t397 = 0 then ((spec_l01PickInt.f s0_0 t398 t399 (([0, 1, 2, 31, 32, 255, 256, 2147483647, 2147483648, 4294967295, 4294967294] : List Int))).bind fun bt403 => (some ((bt403.1) % 4294967296, bt403.2.1, bt403.2.2))) else (if t397 = 1 then ((spec_l01Below.f s0_0 t398 t399 300).bind fun bt406 => (some ((bt406.1) % 4294967296, bt406.2.1, bt406.2.2))) else ((spec_l01Below.f s0_0 t398 t399 65536).bind fun bt409 => ((spec_l01Below.f s0_0 bt409.2.1 bt409.2.2 65536).bind fun bt412 => (some ((((((bt409.1) % 4294967296) * 65536) % 4294967296) + ((bt412.1) % 4294967296)) % 4294967296, bt412.2.1, bt412.2.2)))))) = some (r1, r2, r3) := H
 have A2 := Aside0.mk A20
 clear A20
 by_cases c3 : t397 = 0
 ·rw [if_pos c3] at H
  have c3b0 : (t397 == 0) = true := beq_iff_eq.mpr c3
  have c3b1 : (t397 != 0) = false := bne_eq_false_iff_eq.mpr c3
  clear c3
  obtain ⟨y400, hy400⟩ : ∃ y_ : List Int, y_ = (([0, 1, 2, 31, 32, 255, 256, 2147483647, 2147483648, 4294967295, 4294967294] : List Int)) := ⟨_, rfl⟩
  replace H : ((spec_l01PickInt.f s0_0 t398 t399 y400).bind fun bt403 => (some ((bt403.1) % 4294967296, bt403.2.1, bt403.2.2))) = some (r1, r2, r3) := by first | (rw [hy400]; with_reducible exact H) | (have H2_ := (Option.bind_some _ _).symm.trans H; rw [hy400]; with_reducible exact H2_) | (have H2_ := (Option.bind_some _ _).symm.trans H; with_reducible exact H2_) | with_reducible exact H | (rw [hy400]; exact H) | exact H
  have Ny400 := Aside0.mk hy400
  clear hy400
  replace H := Option.bind_eq_some_iff.mp H
  obtain ⟨⟨t403, t404, t405⟩, A40, H⟩ := H
  replace H : (some ((t403) % 4294967296, t404, t405)) = some (r1, r2, r3) := H
  have A4 := Aside0.mk A40
  clear A40
  simp only [Option.some.injEq, Prod.mk.injEq] at H
  obtain ⟨rfl, rfl, rfl⟩ := H
  go_enter Try.func85, Try.ntmps85
  go_wp2_with (first | ((with_reducible refine gate_callee (f := 73) rfl ?_); refine goesL_ (some 4) rfl rfl Try.func73 Z0 rfl #[.pointer (some ⟨g, 0, none⟩), .int .i64 4] rfl Z9 ?_; (with_reducible refine (spec_l01Below.calls g s0_0 s0_1 s0_2 4 t397 t398 t399 w0 _ ?side1 ?side2 A2.out).mono ?_); (case side1 => exact Z55); (case side2 => exact Z56); rintro e w5 ⟨rfl, hi, hb, hk⟩; refine ⟨_, rfl, ?_⟩; replace HK := Z (KeepBut.trans Z57 hk (.inl rfl)); replace HB := Z (hb); replace HI0 := Z (hi); (try clear hb); (try clear hb2); (try clear hk); (try clear hi)) | ((with_reducible refine gate_dst (N := 8) rfl ?_); refine Kd.R_lit (Kd.int .i64) _ 3 (by rfl) (N := 8) (by rfl) (xs := ([0, 1, 2, 31, 32, 255, 256, 2147483647, 2147483648, 4294967295, 4294967294] : List Int)) (inner := [.int .i64 0, .int .i64 1, .int .i64 2, .int .i64 31, .int .i64 32, .int .i64 255, .int .i64 256, .int .i64 2147483647, .int .i64 2147483648, .int .i64 4294967295, .int .i64 4294967294]) (ok := fun _ => True) (okp := fun _ => True) Z5 (Reps.one (show Kd.M (Kd.int .i64) _ _ _ 0 [.int .i64 0] from rfl) (Reps.one (show Kd.M (Kd.int .i64) _ _ _ 1 [.int .i64 1] from rfl) (Reps.one (show Kd.M (Kd.int .i64) _ _ _ 2 [.int .i64 2] from rfl) (Reps.one (show Kd.M (Kd.int .i64) _ _ _ 31 [.int .i64 31] from rfl) (Reps.one (show Kd.M (Kd.int .i64) _ _ _ 32 [.int .i64 32] from rfl) (Reps.one (show Kd.M (Kd.int .i64) _ _ _ 255 [.int .i64 255] from rfl) (Reps.one (show Kd.M (Kd.int .i64) _ _ _ 256 [.int .i64 256] from rfl) (Reps.one (show Kd.M (Kd.int .i64) _ _ _ 2147483647 [.int .i64 2147483647] from rfl) (Reps.one (show Kd.M (Kd.int .i64) _ _ _ 2147483648 [.int .i64 2147483648] from rfl) (Reps.one (show Kd.M (Kd.int .i64) _ _ _ 4294967295 [.int .i64 4294967295] from rfl) (Reps.one (show Kd.M (Kd.int .i64) _ _ _ 4294967294 [.int .i64 4294967294] from rfl) (Reps.none _ _)))))))))))) (fun _ hk => hk) trivial (Below.refl _ _) (Nat.le_refl _) (by simp) ?_; intro v401 w6 ho7 hb hg_ hnew_; clear hg_ hnew_; (first | rw [← Ny400.out] at ho7 | (simp only [Int.reduceToNat] at ho7; rw [← Ny400.out] at ho7)); have HO402 := Z (Kd.R_lower ho7 (keep_size (w := w) (g := g) (row := none) Z57)); replace HK := Z (KeepBut.trans Z57 (KeepBut.of_below hb g none) (.inl rfl)); replace HB := Z (below_step Z56 hb); replace HI0 := Z (IsS97.below Z55 hb); clear hb ho7; obtain ⟨Ao8, co8, eo8⟩ := Kd.R_slice HO402.out; subst eo8) | ((with_reducible refine gate_callee (f := 86) rfl ?_); refine goesL_ (some 9) rfl rfl Try.func86 Z0 rfl #[.pointer (some ⟨g, 0, none⟩), .slice Ao8 y400.length co8] rfl Z9 ?_; (with_reducible refine (spec_l01PickInt.calls g s0_0 t398 t399 _ _ y400 t403 t404 t405 w0 _ ?side1 ?side2 ?side3 ?side4 ?side5 A4.out).mono ?_); (case side1 => exact Z55); (case side2 => exact Z56); (case side3 => exact (Z28 HO402)); (case side4 => exact (Kd.R_reads' HO402.out).2.1); (case side5 => exact far_slice (IsS97.own_ne HI0.out HO402.out (by decide))); rintro e w9 ⟨rfl, hi, hb, hk⟩; refine ⟨_, rfl, ?_⟩; replace HO402 := Z (Kd.R_mono (Kd.R_keep (IsS97.apart (show IsS97 w0 _ g s0_0 t398 t399 from Z55) (Z8 HO402) (by decide)) hk (fun _ h => h.2)) (fun _ h => h.1)); replace HK := Z (KeepBut.trans Z57 hk (.inl rfl)); replace HB := Z (hb); replace HI0 := Z (hi); (try clear hb); (try clear hb2); (try clear hk); (try clear hi)))
  go_ret
  exact ⟨Z7, Z55, Z56, Z57⟩
 ·rw [if_neg c3] at H
  have c3b0 : (t397 == 0) = false := beq_eq_false_iff_ne.mpr c3
  have c3b1 : (t397 != 0) = true := bne_iff_ne.mpr c3
  by_cases c10 : t397 = 1
  ·rw [if_pos c10] at H
   have c10b0 : (t397 == 1) = true := beq_iff_eq.mpr c10
   have c10b1 : (t397 != 1) = false := bne_eq_false_iff_eq.mpr c10
   clear c10
   replace H := Option.bind_eq_some_iff.mp H
   obtain ⟨⟨t406, t407, t408⟩, A110, H⟩ := H
   replace H : (some ((t406) % 4294967296, t407, t408)) = some (r1, r2, r3) := H
   have A11 := Aside0.mk A110
   clear A110
   simp only [Option.some.injEq, Prod.mk.injEq] at H
   obtain ⟨rfl, rfl, rfl⟩ := H
   go_enter Try.func85, Try.ntmps85
   go_wp2_with (first | ((with_reducible refine gate_callee (f := 73) rfl ?_); refine goesL_ (some 4) rfl rfl Try.func73 Z0 rfl #[.pointer (some ⟨g, 0, none⟩), .int .i64 4] rfl Z9 ?_; (with_reducible refine (spec_l01Below.calls g s0_0 s0_1 s0_2 4 t397 t398 t399 w0 _ ?side1 ?side2 A2.out).mono ?_); (case side1 => exact Z55); (case side2 => exact Z56); rintro e w12 ⟨rfl, hi, hb, hk⟩; refine ⟨_, rfl, ?_⟩; replace HK := Z (KeepBut.trans Z57 hk (.inl rfl)); replace HB := Z (hb); replace HI0 := Z (hi); (try clear hb); (try clear hb2); (try clear hk); (try clear hi)) | ((with_reducible refine gate_callee (f := 73) rfl ?_); refine goesL_ (some 14) rfl rfl Try.func73 Z0 rfl #[.pointer (some ⟨g, 0, none⟩), .int .i64 300] rfl Z9 ?_; (with_reducible refine (spec_l01Below.calls g s0_0 t398 t399 300 t406 t407 t408 w0 _ ?side1 ?side2 A11.out).mono ?_); (case side1 => exact Z55); (case side2 => exact Z56); rintro e w13 ⟨rfl, hi, hb, hk⟩; refine ⟨_, rfl, ?_⟩; replace HK := Z (KeepBut.trans Z57 hk (.inl rfl)); replace HB := Z (hb); replace HI0 := Z (hi); (try clear hb); (try clear hb2); (try clear hk); (try clear hi)))
   go_ret
   exact ⟨Z7, Z55, Z56, Z57⟩
  ·rw [if_neg c10] at H
   have c10b0 : (t397 == 1) = false := beq_eq_false_iff_ne.mpr c10
   have c10b1 : (t397 != 1) = true := bne_iff_ne.mpr c10
   replace H := Option.bind_eq_some_iff.mp H
   obtain ⟨⟨t409, t410, t411⟩, A140, H⟩ := H
   replace H : ((spec_l01Below.f s0_0 t410 t411 65536).bind fun bt412 => (some ((((((t409) % 4294967296) * 65536) % 4294967296) + ((bt412.1) % 4294967296)) % 4294967296, bt412.2.1, bt412.2.2))) = some (r1, r2, r3) := H
   have A14 := Aside0.mk A140
   clear A140
   replace H := Option.bind_eq_some_iff.mp H
   obtain ⟨⟨t412, t413, t414⟩, A150, H⟩ := H
   replace H : (some ((((((t409) % 4294967296) * 65536) % 4294967296) + ((t412) % 4294967296)) % 4294967296, t413, t414)) = some (r1, r2, r3) := H
   have A15 := Aside0.mk A150
   clear A150
   simp only [Option.some.injEq, Prod.mk.injEq] at H
   obtain ⟨rfl, rfl, rfl⟩ := H
   go_enter Try.func85, Try.ntmps85
   go_wp2_with (first | ((with_reducible refine gate_callee (f := 73) rfl ?_); refine goesL_ (some 4) rfl rfl Try.func73 Z0 rfl #[.pointer (some ⟨g, 0, none⟩), .int .i64 4] rfl Z9 ?_; (with_reducible refine (spec_l01Below.calls g s0_0 s0_1 s0_2 4 t397 t398 t399 w0 _ ?side1 ?side2 A2.out).mono ?_); (case side1 => exact Z55); (case side2 => exact Z56); rintro e w16 ⟨rfl, hi, hb, hk⟩; refine ⟨_, rfl, ?_⟩; replace HK := Z (KeepBut.trans Z57 hk (.inl rfl)); replace HB := Z (hb); replace HI0 := Z (hi); (try clear hb); (try clear hb2); (try clear hk); (try clear hi)) | ((with_reducible refine gate_callee (f := 73) rfl ?_); refine goesL_ (some 17) rfl rfl Try.func73 Z0 rfl #[.pointer (some ⟨g, 0, none⟩), .int .i64 65536] rfl Z9 ?_; (with_reducible refine (spec_l01Below.calls g s0_0 t398 t399 65536 t409 t410 t411 w0 _ ?side1 ?side2 A14.out).mono ?_); (case side1 => exact Z55); (case side2 => exact Z56); rintro e w17 ⟨rfl, hi, hb, hk⟩; refine ⟨_, rfl, ?_⟩; replace HK := Z (KeepBut.trans Z57 hk (.inl rfl)); replace HB := Z (hb); replace HI0 := Z (hi); (try clear hb); (try clear hb2); (try clear hk); (try clear hi)) | ((with_reducible refine gate_callee (f := 73) rfl ?_); refine goesL_ (some 21) rfl rfl Try.func73 Z0 rfl #[.pointer (some ⟨g, 0, none⟩), .int .i64 65536] rfl Z9 ?_; (with_reducible refine (spec_l01Below.calls g s0_0 t410 t411 65536 t412 t413 t414 w0 _ ?side1 ?side2 A15.out).mono ?_); (case side1 => exact Z55); (case side2 => exact Z56); rintro e w18 ⟨rfl, hi, hb, hk⟩; refine ⟨_, rfl, ?_⟩; replace HK := Z (KeepBut.trans Z57 hk (.inl rfl)); replace HB := Z (hb); replace HI0 := Z (hi); (try clear hb); (try clear hb2); (try clear hk); (try clear hi)))
   go_ret
   exact ⟨Z7, Z55, Z56, Z57⟩

end Go.Proofs.Ytkkiibjnpkjijaa.QFnColor
