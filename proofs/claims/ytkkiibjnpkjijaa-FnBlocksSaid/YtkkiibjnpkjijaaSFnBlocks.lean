/-
Short forms for steps that come again in the texts beside this one: each is what its own tactic proves; no conditions.
-/
import Derived.Test.YtkkiibjnpkjijaaQFnBlocksx0
namespace Go.Proofs.Ytkkiibjnpkjijaa.QFnBlocks
open Go.RowKit Go.Proofs.YtkkiibjnpkjijaaW.PrintWords Go.Proofs.YtkkiibjnpkjijaaW.PrintLast Go.Proofs.YtkkiibjnpkjijaaW.PrintMore
set_option linter.unusedVariables false
set_option linter.unusedSimpArgs false
theorem Z {p : Prop} (h : p) : Aside0 p := ⟨h⟩
theorem Zk {w X W : World} {g : Nat} {r s : Option Nat} (_ : Aside0 (KeepBut w X g r)) (h : KeepBut w W g s) {p : Addr} (hp : w.heap.size ≤ p.block) (u : Value) : KeepBut w (W.setCell p u) g s := keep_far h hp u
theorem Zb {w X W : World} {g j : Nat} {v : Value} (_ : Aside0 (Below w.heap.size w X)) (h : Below w.heap.size w W) (hg : w.heap.size ≤ g) : Below w.heap.size w (W.setCell ⟨g, j, none⟩ v) := below_set h hg
theorem Z0 {p : Prop} (h : p := by first | rfl | (simp; done) | (simp [*]; done) | (simp [bne]; done)) : p := h
theorem Z1 {p : Prop} (h : p := by repeat (first | exact Drawn0.refl _ | apply Drawn0.step)) : p := h
theorem Z2 {p : Prop} (h : p := by first | (with_reducible assumption) | assumption) : p := h
theorem Z3 {p : Prop} (h : p := by have := HK1.out; omega) : p := h
theorem Z4 {p : Prop} (h : p := by first | (go_simp; done) | (go_simp; rfl)) : p := h
theorem Z5 {p : Prop} (h : p := by assumption) : p := h
theorem Z6 {p p0 : Prop} (x0 : p0) (e : p0 → p := by intro Z0_; repeat (first | exact (Kd.C_below Z0_.out HB.out) | (with_reducible refine Kd.C_alloc ?_ _) | (with_reducible refine Kd.C_drewN ?_ _) | (with_reducible refine Kd.C_drew ?_))) : p := e x0
theorem Z7 {p p0 : Prop} (x0 : p0) (e : p0 → p := by intro Z0_; (with_reducible repeat (first | apply Kd.R_alloc | apply Kd.R_drewN | apply Kd.R_drew)); exact Z0_.out) : p := e x0
theorem Z8 {p : Prop} (h : p := by first | rfl | (simp [errW_none, errW_some] <;> rfl) | (simp [*, errW_none, errW_some] <;> rfl)) : p := h
theorem Z9 {p : Prop} (h : p := by kernel_rfl) : p := h
theorem Z10 {p : Prop} (h : p := by rw [if_pos rfl] at H; exact H) : p := h
theorem Z11 {p p0 : Prop} (x0 : p0) (e : p0 → p := by intro Z0_; (with_reducible repeat (first | refine blk_drewN ?_ _ | refine blk_drew ?_ | refine blk_alloc ?_ _)); exact Z0_.out) : p := e x0
theorem Z12 {p : Prop} (h : p := by (try simp only [List.map_toArray, List.map_cons, List.map_nil]); first | done | rfl | (simp only [List.length_drop, List.length_take]; rfl)) : p := h
theorem Z13 {p p0 : Prop} (x0 : p0) (e : p0 → p := by intro Z0_; repeat (first | exact (Kd.R_reads' Z0_.out).2.2 | (with_reducible refine Kd.C_alloc ?_ _) | (with_reducible refine Kd.C_drewN ?_ _) | (with_reducible refine Kd.C_drew ?_))) : p := e x0
theorem Z14 {p p0 : Prop} (x0 : p0) (e : p0 → p := by intro Z0_; (with_reducible repeat (first | refine blk_drewN ?_ _ | refine blk_drew ?_ | refine blk_alloc ?_ _)); refine blk_put (cs := #[.slice none 0 0]) ?_ 0 _ rfl; (with_reducible repeat (first | refine blk_drewN ?_ _ | refine blk_drew ?_ | refine blk_alloc ?_ _)); exact Z0_.out) : p := e x0
theorem Z15 {p : Prop} (h : p := by first | exact Kd.R_nil _ _ _ _ _ | exact Kd.N_nil _ _ _ _ _ | exact Kd.V_nil _ _ _ _ _ | exact Kd.Q_nil _ _ _ _ _ | exact Kd.S_nil _ _ _ _ _) : p := h
theorem Z16 {p : Prop} (h : p := by first | omega | exact Nat.le_refl _) : p := h
theorem Z17 {p p0 : Prop} (x0 : p0) (e : p0 → p := by intro Z0_; (with_reducible repeat (first | apply Kd.R_alloc | apply Kd.R_drewN | apply Kd.R_drew)); exact Kd.R_mono Z0_.out (fun _ hk => trivial)) : p := e x0
theorem Z18 {p p0 : Prop} (x0 : p0) (e : p0 → p := by intro Z0_; (with_reducible repeat (first | apply Kd.R_alloc | apply Kd.R_drewN | apply Kd.R_drew)); exact Kd.R_mono Z0_.out (fun _ hk => hk.2)) : p := e x0
theorem Z19 {p : Prop} (h : p := by first | (rw [hji22] at H; exact H) | (simp only [hji22] at H ⊢; exact H)) : p := h
theorem Z20 {p : Prop} (h : p := by have := HK1.out; have := HK2.out; omega) : p := h
theorem Z21 {p p0 : Prop} (x0 : p0) (e : p0 → p := by intro Z0_; (with_reducible repeat (first | refine blk_drewN ?_ _ | refine blk_drew ?_ | refine blk_alloc ?_ _)); refine blk_far ?_ NB429_435.out _; (with_reducible repeat (first | refine blk_drewN ?_ _ | refine blk_drew ?_ | refine blk_alloc ?_ _)); exact Z0_.out) : p := e x0
theorem Z22 {p : Prop} (h : p := by repeat (first | (with_reducible first | exact HI452.out | apply IsS97.alloc | apply IsS97.drewN | apply IsS97.drew | apply IsS97.set_1 | apply IsS97.set_2 | refine IsS97.far ?_ NB452_448.out _) | exact HI452.out)) : p := h
theorem Z23 {p : Prop} (h : p := by repeat (first | (with_reducible first | exact HB.out | apply below_alloc | apply pw_below_drewN | apply below_drew1 | refine below_set ?_ (IsS97.ge HI452.out) | refine below_set ?_ GE448.out) | exact HB.out)) : p := h
theorem Z24 {p : Prop} (h : p := by repeat (first | (with_reducible first | exact HI452.out | apply IsS97.alloc | apply IsS97.drewN | apply IsS97.drew | apply IsS97.set_1 | apply IsS97.set_2 | refine IsS97.far ?_ NB452_448.out _ | refine IsS97.far ?_ NB452_458.out _) | exact HI452.out)) : p := h
theorem Z25 {p : Prop} (h : p := by repeat (first | (with_reducible first | exact HB.out | apply below_alloc | apply pw_below_drewN | apply below_drew1 | refine below_set ?_ (IsS97.ge HI452.out) | refine below_set ?_ GE448.out | refine below_set ?_ GE458.out) | exact HB.out)) : p := h
theorem Z26 {p p0 : Prop} (x0 : p0) (e : p0 → p := by intro Z0_; repeat (first | exact Z0_.out | (with_reducible refine Kd.C_alloc ?_ _) | (with_reducible refine Kd.C_drewN ?_ _) | (with_reducible refine Kd.C_drew ?_))) : p := e x0
theorem Z27 {p p0 : Prop} (x0 : p0) (e : p0 → p := by intro Z0_; (with_reducible repeat (first | refine blk_drewN ?_ _ | refine blk_drew ?_ | refine blk_alloc ?_ _)); refine blk_far ?_ NB490_495.out _; (with_reducible repeat (first | refine blk_drewN ?_ _ | refine blk_drew ?_ | refine blk_alloc ?_ _)); exact Z0_.out) : p := e x0
theorem Z28 {p p0 : Prop} (x0 : p0) (e : p0 → p := by intro Z0_; (with_reducible repeat (first | apply Kd.R_alloc | apply Kd.R_drewN | apply Kd.R_drew)); exact Kd.R_mono Z0_.out (fun _ hk => ⟨hk.1.1.1.1, ⟨hk.1.1.1.2.1, hk.1.1.1.2.2⟩⟩)) : p := e x0
theorem Z29 {p p0 : Prop} (x0 : p0) (e : p0 → p := by intro Z0_; (with_reducible repeat (first | apply Kd.R_alloc | apply Kd.R_drewN | apply Kd.R_drew)); exact Kd.R_mono Z0_.out (fun _ hk => ⟨hk.1.1.1, ⟨hk.1.1.2.1, hk.1.1.2.2⟩⟩)) : p := e x0
theorem Z30 {p p0 : Prop} (x0 : p0) (e : p0 → p := by intro Z0_; (with_reducible repeat (first | refine blk_drewN ?_ _ | refine blk_drew ?_ | refine blk_alloc ?_ _)); refine blk_far ?_ NB490_518.out _; (with_reducible repeat (first | refine blk_drewN ?_ _ | refine blk_drew ?_ | refine blk_alloc ?_ _)); exact Z0_.out) : p := e x0
theorem Z31 {p p0 : Prop} (x0 : p0) (e : p0 → p := by intro Z0_; (with_reducible repeat (first | refine blk_drewN ?_ _ | refine blk_drew ?_ | refine blk_alloc ?_ _)); refine blk_far ?_ NB495_518.out _; (with_reducible repeat (first | refine blk_drewN ?_ _ | refine blk_drew ?_ | refine blk_alloc ?_ _)); exact Z0_.out) : p := e x0
theorem Z32 {p p0 : Prop} (x0 : p0) (e : p0 → p := by intro Z0_; (with_reducible repeat (first | refine blk_drewN ?_ _ | refine blk_drew ?_ | refine blk_alloc ?_ _)); refine blk_far ?_ NB500_518.out _; (with_reducible repeat (first | refine blk_drewN ?_ _ | refine blk_drew ?_ | refine blk_alloc ?_ _)); exact Z0_.out) : p := e x0
theorem Z33 {p : Prop} (h : p := by repeat (first | (with_reducible first | exact HB.out | apply below_alloc | apply pw_below_drewN | apply below_drew1 | refine Zb HB ?_ (Aside0.out Z5)) | exact HB.out)) : p := h
theorem Z34 {p : Prop} (h : p := by rw [hg]; exact Nat.ne_of_lt (blk_lt (g := gb113) (o := .cells #[.slice A0_0 l0_0.length c0_0] 34 (0, 0)) (Z11 BK113))) : p := h
theorem Z35 {p : Prop} (h : p := by rw [hg]; exact Nat.ne_of_gt (blk_lt (g := gb113) (o := .cells #[.slice A0_0 l0_0.length c0_0] 34 (0, 0)) (Z11 BK113))) : p := h
theorem Z36 {p : Prop} (h : p := by rw [hg]; exact Nat.ne_of_lt (blk_lt (g := gb132) (o := .cells #[.slice A0_0 l0_0.length c0_0] 34 (0, 0)) (Z11 BK132))) : p := h
theorem Z37 {p : Prop} (h : p := by rw [hg]; exact Nat.ne_of_gt (blk_lt (g := gb132) (o := .cells #[.slice A0_0 l0_0.length c0_0] 34 (0, 0)) (Z11 BK132))) : p := h
theorem Z38 {p : Prop} (h : p := by repeat (first | (with_reducible first | exact HBW.out | apply below_alloc | apply pw_below_drewN | apply below_drew1 | refine Zb HBW ?_ (Aside0.out Z5)) | exact HBW.out)) : p := h
theorem Z39 {p : Prop} (h : p := by repeat (first | (with_reducible first | exact HI0.out | apply IsS97.alloc | apply IsS97.drewN | apply IsS97.drew | apply IsS97.set_1 | apply IsS97.set_2 | refine IsS97.far ?_ (Aside0.out Z5) _) | exact HI0.out)) : p := h
theorem Z40 {p : Prop} (h : p := by repeat (first | (with_reducible first | exact HB.out | apply below_alloc | apply pw_below_drewN | apply below_drew1 | refine Zb HB ?_ (Aside0.out Z5) | refine below_set ?_ (IsS97.ge HI0.out)) | exact HB.out)) : p := h
theorem Z41 {p : Prop} (h : p := by repeat (first | (with_reducible first | exact HK.out | apply KeepBut.set_ | apply keep_drewN | apply keep_drew | apply keep_alloc | refine Zk HK ?_ (Aside0.out Z5) _) | exact HK.out)) : p := h
theorem Z42 {p : Prop} (h : p := by rw [hg]; exact Nat.ne_of_lt (blk_lt (g := gb429) (o := .cells #[.slice none 0 0] 34 (0, 0)) (Z11 BK429))) : p := h
theorem Z43 {p : Prop} (h : p := by rw [hg]; exact Nat.ne_of_gt (blk_lt (g := gb429) (o := .cells #[.slice none 0 0] 34 (0, 0)) (Z11 BK429))) : p := h
theorem Z44 {p : Prop} (h : p := by rw [hg]; exact Nat.ne_of_lt (blk_lt (g := gb490) (o := .cells #[.slice Ao10 t483.length co10] 34 (0, 0)) (Z11 BK490))) : p := h
theorem Z45 {p : Prop} (h : p := by rw [hg]; exact Nat.ne_of_gt (blk_lt (g := gb490) (o := .cells #[.slice Ao10 t483.length co10] 34 (0, 0)) (Z11 BK490))) : p := h
theorem Z46 {p : Prop} (h : p := by rw [hg]; exact Nat.ne_of_lt (blk_lt (g := gb490) (o := .cells #[.slice Ao28 t483.length co28] 34 (0, 0)) (Z11 BK490))) : p := h
theorem Z47 {p : Prop} (h : p := by rw [hg]; exact Nat.ne_of_gt (blk_lt (g := gb490) (o := .cells #[.slice Ao28 t483.length co28] 34 (0, 0)) (Z11 BK490))) : p := h
theorem Z48 {p : Prop} (h : p := by rw [hg]; exact Nat.ne_of_lt (blk_lt (g := gb495) (o := .cells #[.slice Ao33 t491.length co33] 34 (0, 0)) (Z11 BK495))) : p := h
theorem Z49 {p : Prop} (h : p := by rw [hg]; exact Nat.ne_of_gt (blk_lt (g := gb495) (o := .cells #[.slice Ao33 t491.length co33] 34 (0, 0)) (Z11 BK495))) : p := h
theorem Z50 {p : Prop} (h : p := by rw [hg]; exact Nat.ne_of_lt (blk_lt (g := gb500) (o := .cells #[.slice Ao39 t496.length co39] 34 (0, 0)) (Z11 BK500))) : p := h
theorem Z51 {p : Prop} (h : p := by rw [hg]; exact Nat.ne_of_gt (blk_lt (g := gb500) (o := .cells #[.slice Ao39 t496.length co39] 34 (0, 0)) (Z11 BK500))) : p := h
theorem Z52 {p : Prop} (h : p := by rw [hg]; exact Nat.ne_of_lt (blk_lt (g := gb490) (o := .cells #[.slice Ao175 t483.length co175] 34 (0, 0)) (Z11 BK490))) : p := h
theorem Z53 {p : Prop} (h : p := by rw [hg]; exact Nat.ne_of_gt (blk_lt (g := gb490) (o := .cells #[.slice Ao175 t483.length co175] 34 (0, 0)) (Z11 BK490))) : p := h
theorem Z54 {p : Prop} (h : p := by rw [hg]; exact (below_size Z33)) : p := h
theorem Z55 {p : Prop} (h : p := by rw [hg]; exact (below_size Z38)) : p := h
theorem Z56 {p : Prop} (h : p := by rw [hg]; exact (keep_size (w := w) (g := g) (row := none) Z41)) : p := h
theorem Z57 {p : Prop} (h : p := by rw [hg]; exact Nat.ne_of_lt (IsS97.lt (show IsS97 w0 _ g s0_0 s0_1 s0_2 from Z39))) : p := h
theorem Z58 {p : Prop} (h : p := by rw [hg]; exact Nat.ne_of_gt (IsS97.lt (show IsS97 w0 _ g s0_0 s0_1 s0_2 from Z39))) : p := h
theorem Z59 {p : Prop} (h : p := by rw [hg]; exact Nat.ne_of_lt (IsS97.lt (show IsS97 w0 _ g s0_0 t433 t434 from Z39))) : p := h
theorem Z60 {p : Prop} (h : p := by rw [hg]; exact Nat.ne_of_gt (IsS97.lt (show IsS97 w0 _ g s0_0 t433 t434 from Z39))) : p := h
end Go.Proofs.Ytkkiibjnpkjijaa.QFnBlocks
