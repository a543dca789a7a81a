/-
Short forms for steps that come again in the texts beside this one: each is what its own tactic proves; no conditions.
-/
import Derived.Test.YtkkiibjnpkjijaaQFnExactPutItemsx0
namespace Go.Proofs.Ytkkiibjnpkjijaa.QFnExactPutItems
open Go.RowKit Go.Proofs.YtkkiibjnpkjijaaW.PrintWords Go.Proofs.YtkkiibjnpkjijaaW.PrintLast Go.Proofs.YtkkiibjnpkjijaaW.PrintMore
set_option linter.unusedVariables false
set_option linter.unusedSimpArgs false
theorem Z {p : Prop} (h : p) : Aside0 p := ⟨h⟩
theorem Z0 {p : Prop} (h : p := by kernel_rfl) : p := h
theorem Z1 {p : Prop} (h : p := by go_simp; rfl) : p := h
theorem Z2 {p : Prop} (h : p := by first | simpa using c3 | (simp at c3 ⊢; omega)) : p := h
theorem Z3 {p : Prop} (h : p := by first | rfl | (simp; done) | (simp [*]; done) | (simp [bne]; done)) : p := h
theorem Z4 {p : Prop} (h : p := by repeat (first | exact Drawn0.refl _ | apply Drawn0.step)) : p := h
theorem Z5 {p : Prop} (h : p := by first | (with_reducible assumption) | assumption) : p := h
theorem Z6 {p : Prop} (h : p := by have := HK1.out; omega) : p := h
theorem Z7 {p : Prop} (h : p := by rw [if_pos rfl] at H; exact H) : p := h
theorem Z8 {p : Prop} (h : p := by first | (go_simp; done) | (go_simp; rfl)) : p := h
theorem Z9 {p : Prop} (h : p := by assumption) : p := h
theorem Z10 {p p0 : Prop} (x0 : p0) (e : p0 → p := by intro Z0_; (with_reducible repeat (first | refine blk_drewN ?_ _ | refine blk_drew ?_ | refine blk_alloc ?_ _)); exact Z0_.out) : p := e x0
theorem Z11 {p : Prop} (h : p := by (try simp only [List.map_toArray, List.map_cons, List.map_nil]); first | done | rfl | (simp only [List.length_drop, List.length_take]; rfl)) : p := h
theorem Z12 {p p0 : Prop} (x0 : p0) (e : p0 → p := by intro Z0_; repeat (first | exact (Kd.C_below Z0_.out HB.out) | (with_reducible refine Kd.C_alloc ?_ _) | (with_reducible refine Kd.C_drewN ?_ _) | (with_reducible refine Kd.C_drew ?_))) : p := e x0
theorem Z13 {p : Prop} (h : p := by first | rfl | (simp [errW_none, errW_some] <;> rfl) | (simp [*, errW_none, errW_some] <;> rfl)) : p := h
theorem Z14 {p p0 : Prop} (x0 : p0) (e : p0 → p := by intro Z0_; (with_reducible repeat (first | apply Kd.R_alloc | apply Kd.R_drewN | apply Kd.R_drew)); exact Z0_.out) : p := e x0
theorem Z15 {p : Prop} (h : p := by repeat (first | (with_reducible first | exact HK.out | apply Kept.alloc | apply Kept.drewN | apply Kept.drew) | exact HK.out)) : p := h
theorem Z16 {p : Prop} (h : p := by repeat (first | (with_reducible first | exact HK.out | apply Kept.alloc | apply Kept.drewN | apply Kept.drew | refine Kept.setCell ?_ (.inr GW107.out) _) | exact HK.out)) : p := h
theorem Z17 {p : Prop} (h : p := by first | omega | exact Nat.le_refl _) : p := h
theorem Z18 {p p0 : Prop} (x0 : p0) (e : p0 → p := by intro Z0_; (with_reducible repeat (first | refine blk_drewN ?_ _ | refine blk_drew ?_ | refine blk_alloc ?_ _)); refine blk_put (cs := #[.slice none 0 0]) ?_ 0 _ rfl; (with_reducible repeat (first | refine blk_drewN ?_ _ | refine blk_drew ?_ | refine blk_alloc ?_ _)); exact Z0_.out) : p := e x0
theorem Z19 {p : Prop} (h : p := by first | exact Kd.R_nil _ _ _ _ _ | exact Kd.N_nil _ _ _ _ _ | exact Kd.V_nil _ _ _ _ _ | exact Kd.Q_nil _ _ _ _ _ | exact Kd.S_nil _ _ _ _ _) : p := h
theorem Z20 {p p0 : Prop} (x0 : p0) (e : p0 → p := by intro Z0_; (with_reducible repeat (first | apply Kd.R_alloc | apply Kd.R_drewN | apply Kd.R_drew)); exact Kd.R_mono Z0_.out (fun _ hk => trivial)) : p := e x0
theorem Z21 {p p0 : Prop} (x0 : p0) (e : p0 → p := by intro Z0_; repeat (first | exact (Kd.R_reads' Z0_.out).2.2 | (with_reducible refine Kd.C_alloc ?_ _) | (with_reducible refine Kd.C_drewN ?_ _) | (with_reducible refine Kd.C_drew ?_))) : p := e x0
theorem Z22 {p p0 : Prop} (x0 : p0) (e : p0 → p := by intro Z0_; (with_reducible repeat (first | apply Kd.R_alloc | apply Kd.R_drewN | apply Kd.R_drew)); exact Kd.R_mono Z0_.out (fun _ hk => hk.2)) : p := e x0
theorem Z23 {p : Prop} (h : p := by simpa using c20) : p := h
theorem Z24 {p : Prop} (h : p := by simpa using c24) : p := h
theorem Z25 {p : Prop} (h : p := by simpa using c41) : p := h
theorem Z26 {p p0 : Prop} (x0 : p0) (e : p0 → p := by intro Z0_; (with_reducible repeat (first | refine blk_drewN ?_ _ | refine blk_drew ?_ | refine blk_alloc ?_ _)); refine blk_put (cs := #[.int .i64 ((rd_T51 l0 x11_1).f0), .string ((rd_T51 l0 x11_1).f1), .int .i32 ((rd_T51 l0 x11_1).f2), .bool ((rd_T51 l0 x11_1).f3), .int .u32 0]) ?_ 4 _ rfl; (with_reducible repeat (first | refine blk_drewN ?_ _ | refine blk_drew ?_ | refine blk_alloc ?_ _)); refine blk_put (cs := #[.int .i64 ((rd_T51 l0 x11_1).f0), .string ((rd_T51 l0 x11_1).f1), .int .i32 ((rd_T51 l0 x11_1).f2), .bool false, .int .u32 0]) ?_ 3 _ rfl; (with_reducible repeat (first | refine blk_drewN ?_ _ | refine blk_drew ?_ | refine blk_alloc ?_ _)); refine blk_put (cs := #[.int .i64 ((rd_T51 l0 x11_1).f0), .string ((rd_T51 l0 x11_1).f1), .int .i32 0, .bool false, .int .u32 0]) ?_ 2 _ rfl; (with_reducible repeat (first | refine blk_drewN ?_ _ | refine blk_drew ?_ | refine blk_alloc ?_ _)); refine blk_put (cs := #[.int .i64 ((rd_T51 l0 x11_1).f0), .string (⟨#[]⟩ : ByteArray), .int .i32 0, .bool false, .int .u32 0]) ?_ 1 _ rfl; (with_reducible repeat (first | refine blk_drewN ?_ _ | refine blk_drew ?_ | refine blk_alloc ?_ _)); refine blk_put (cs := #[.int .i64 0, .string (⟨#[]⟩ : ByteArray), .int .i32 0, .bool false, .int .u32 0]) ?_ 0 _ rfl; (with_reducible repeat (first | refine blk_drewN ?_ _ | refine blk_drew ?_ | refine blk_alloc ?_ _)); exact Z0_.out) : p := e x0
theorem Z27 {p p0 : Prop} (x0 : p0) (e : p0 → p := by intro Z0_; (with_reducible repeat (first | refine blk_drewN ?_ _ | refine blk_drew ?_ | refine blk_alloc ?_ _)); refine blk_far ?_ NB398_423.out _; (with_reducible repeat (first | refine blk_drewN ?_ _ | refine blk_drew ?_ | refine blk_alloc ?_ _)); exact Z0_.out) : p := e x0
theorem Z28 {p p0 : Prop} (x0 : p0) (e : p0 → p := by intro Z0_; (with_reducible repeat (first | refine blk_drewN ?_ _ | refine blk_drew ?_ | refine blk_alloc ?_ _)); refine blk_far ?_ NB411_423.out _; (with_reducible repeat (first | refine blk_drewN ?_ _ | refine blk_drew ?_ | refine blk_alloc ?_ _)); exact Z0_.out) : p := e x0
theorem Z29 {p p0 : Prop} (x0 : p0) (e : p0 → p := by intro Z0_; (with_reducible repeat (first | refine blk_drewN ?_ _ | refine blk_drew ?_ | refine blk_alloc ?_ _)); refine blk_far ?_ NB415_423.out _; (with_reducible repeat (first | refine blk_drewN ?_ _ | refine blk_drew ?_ | refine blk_alloc ?_ _)); exact Z0_.out) : p := e x0
theorem Z30 {p p0 : Prop} (x0 : p0) (e : p0 → p := by intro Z0_; (with_reducible repeat (first | apply Kd.R_alloc | apply Kd.R_drewN | apply Kd.R_drew)); exact Kd.R_mono Z0_.out (fun _ hk => ⟨hk.1.2, hk.2⟩)) : p := e x0
theorem Z31 {p : Prop} (h : p := by have := HJ20.out; first | omega | exact Nat.le_refl _) : p := h
theorem Z32 {p p0 : Prop} (x0 : p0) (e : p0 → p := by intro Z0_; (with_reducible repeat (first | apply Kd.R_alloc | apply Kd.R_drewN | apply Kd.R_drew)); exact Kd.R_mono Z0_.out (fun _ hk => ⟨hk.1, hk.2.1⟩)) : p := e x0
theorem Z33 {p p0 : Prop} (x0 : p0) (e : p0 → p := by intro Z0_; (try simp only [List.map_toArray, List.map_cons, List.map_nil]); first | done | (rw [show t439.length = t419.length from (Kd.R_reads' Z0_.out).1.symm] <;> rfl) | rfl | (simp only [List.length_drop, List.length_take]; rfl)) : p := e x0
theorem Z34 {p p0 : Prop} (x0 : p0) (e : p0 → p := by intro Z0_; (with_reducible repeat (first | refine blk_drewN ?_ _ | refine blk_drew ?_ | refine blk_alloc ?_ _)); refine blk_far ?_ NB398_451.out _; (with_reducible repeat (first | refine blk_drewN ?_ _ | refine blk_drew ?_ | refine blk_alloc ?_ _)); exact Z0_.out) : p := e x0
theorem Z35 {p p0 : Prop} (x0 : p0) (e : p0 → p := by intro Z0_; (with_reducible repeat (first | refine blk_drewN ?_ _ | refine blk_drew ?_ | refine blk_alloc ?_ _)); refine blk_far ?_ NB411_451.out _; (with_reducible repeat (first | refine blk_drewN ?_ _ | refine blk_drew ?_ | refine blk_alloc ?_ _)); exact Z0_.out) : p := e x0
theorem Z36 {p p0 : Prop} (x0 : p0) (e : p0 → p := by intro Z0_; (with_reducible repeat (first | refine blk_drewN ?_ _ | refine blk_drew ?_ | refine blk_alloc ?_ _)); refine blk_far ?_ NB415_451.out _; (with_reducible repeat (first | refine blk_drewN ?_ _ | refine blk_drew ?_ | refine blk_alloc ?_ _)); exact Z0_.out) : p := e x0
theorem Z37 {p p0 : Prop} (x0 : p0) (e : p0 → p := by intro Z0_; (with_reducible repeat (first | refine blk_drewN ?_ _ | refine blk_drew ?_ | refine blk_alloc ?_ _)); refine blk_far ?_ NB423_451.out _; (with_reducible repeat (first | refine blk_drewN ?_ _ | refine blk_drew ?_ | refine blk_alloc ?_ _)); exact Z0_.out) : p := e x0
theorem Z38 {p : Prop} (h : p := by have := HJ20.out; have := HJ79.out; first | omega | exact Nat.le_refl _) : p := h
theorem Z39 {p p0 : Prop} (x0 : p0) (e : p0 → p := by intro Z0_; (try simp only [hl416000_79]); (with_reducible repeat (first | apply Kd.R_alloc | apply Kd.R_drewN | apply Kd.R_drew)); exact Kd.R_mono Z0_.out (fun _ hk => ⟨hk.1.1.1, ⟨hk.1.1.2, hk.2⟩⟩)) : p := e x0
theorem Z40 {p p0 : Prop} (x0 : p0) (e : p0 → p := by intro Z0_; (try simp only [hl416000_79]); (with_reducible repeat (first | apply Kd.R_alloc | apply Kd.R_drewN | apply Kd.R_drew)); exact Kd.R_mono Z0_.out (fun _ hk => ⟨hk.1.1.1.2, ⟨hk.1.1.2, hk.1.2⟩⟩)) : p := e x0
theorem Z41 {p p0 : Prop} (x0 : p0) (e : p0 → p := by intro Z0_; (try simp only [hl416000_79]); (with_reducible repeat (first | refine blk_drewN ?_ _ | refine blk_drew ?_ | refine blk_alloc ?_ _)); exact Z0_.out) : p := e x0
theorem Z42 {p : Prop} (h : p := by repeat (first | (with_reducible first | exact HB.out | apply below_alloc | apply pw_below_drewN | apply below_drew1 | refine below_set ?_ (Aside0.out Z9)) | exact HB.out)) : p := h
theorem Z43 {p : Prop} (h : p := by rw [hg]; exact Nat.ne_of_lt (blk_lt (g := gb103) (o := .cells #[.slice A0_0 l0_0.length c0_0] 34 (0, 0)) (Z10 BK103))) : p := h
theorem Z44 {p : Prop} (h : p := by rw [hg]; exact Nat.ne_of_gt (blk_lt (g := gb103) (o := .cells #[.slice A0_0 l0_0.length c0_0] 34 (0, 0)) (Z10 BK103))) : p := h
theorem Z45 {p : Prop} (h : p := by rw [hg]; exact Nat.ne_of_lt (blk_lt (g := gb120) (o := .cells #[.slice A0_0 l0_0.length c0_0] 42 (0, 0)) (Z10 BK120))) : p := h
theorem Z46 {p : Prop} (h : p := by rw [hg]; exact Nat.ne_of_gt (blk_lt (g := gb120) (o := .cells #[.slice A0_0 l0_0.length c0_0] 42 (0, 0)) (Z10 BK120))) : p := h
theorem Z47 {p : Prop} (h : p := by rw [hg]; exact Nat.ne_of_lt (blk_lt (g := gb260) (o := .cells #[.slice A0_0 l0_0.length c0_0] 34 (0, 0)) (Z10 BK260))) : p := h
theorem Z48 {p : Prop} (h : p := by rw [hg]; exact Nat.ne_of_gt (blk_lt (g := gb260) (o := .cells #[.slice A0_0 l0_0.length c0_0] 34 (0, 0)) (Z10 BK260))) : p := h
theorem Z49 {p : Prop} (h : p := by rw [hg]; exact Nat.ne_of_lt (blk_lt (g := gb270) (o := .cells #[.int .i64 a0_0, .string a0_1, .int .i32 a0_2, .bool a0_3, .int .u32 a0_4] 49 (0, 0)) (Z10 BK270))) : p := h
theorem Z50 {p : Prop} (h : p := by rw [hg]; exact Nat.ne_of_gt (blk_lt (g := gb270) (o := .cells #[.int .i64 a0_0, .string a0_1, .int .i32 a0_2, .bool a0_3, .int .u32 a0_4] 49 (0, 0)) (Z10 BK270))) : p := h
theorem Z51 {p p0 : Prop} (x0 : p0) (e : p0 → p := by intro Z0_; have h_ : (x4_1 : Int) < ((x3_1.length : Int) : Int) := of_decide_eq_true Z5; first | exact h_ | (have e_ := (Kd.R_reads' Z0_.out).1; omega) | simpa using h_) : p := e x0
theorem Z52 {p : Prop} (h : p := by rw [hg]; exact Nat.ne_of_lt (blk_lt (g := gb364) (o := .cells #[.slice A0_0 l0_0.length c0_0] 34 (0, 0)) (Z10 BK364))) : p := h
theorem Z53 {p : Prop} (h : p := by rw [hg]; exact Nat.ne_of_gt (blk_lt (g := gb364) (o := .cells #[.slice A0_0 l0_0.length c0_0] 34 (0, 0)) (Z10 BK364))) : p := h
theorem Z54 {p : Prop} (h : p := by rw [hg]; exact Nat.ne_of_lt (blk_lt (g := gb374) (o := .cells #[.slice A0_0 l0_0.length c0_0] 34 (0, 0)) (Z10 BK374))) : p := h
theorem Z55 {p : Prop} (h : p := by rw [hg]; exact Nat.ne_of_gt (blk_lt (g := gb374) (o := .cells #[.slice A0_0 l0_0.length c0_0] 34 (0, 0)) (Z10 BK374))) : p := h
theorem Z56 {p : Prop} (h : p := by rw [hg]; exact Nat.ne_of_lt (blk_lt (g := gb384) (o := .cells #[.int .i64 a0_0, .string a0_1, .int .i32 a0_2, .bool a0_3, .int .u32 a0_4] 51 (0, 0)) (Z10 BK384))) : p := h
theorem Z57 {p : Prop} (h : p := by rw [hg]; exact Nat.ne_of_gt (blk_lt (g := gb384) (o := .cells #[.int .i64 a0_0, .string a0_1, .int .i32 a0_2, .bool a0_3, .int .u32 a0_4] 51 (0, 0)) (Z10 BK384))) : p := h
theorem Z58 {p p0 : Prop} (x0 : p0) (e : p0 → p := by intro Z0_; have h_ : (x5_1 : Int) < ((x0_1.length : Int) : Int) := of_decide_eq_true Z5; first | exact h_ | (have e_ := (Kd.R_reads' Z0_.out).1; omega) | simpa using h_) : p := e x0
theorem Z59 {p : Prop} (h : p := by rw [hg]; exact Nat.ne_of_lt (blk_lt (g := gb398) (o := .cells #[.slice A0_0 l0_0.length c0_0] 42 (0, 0)) (Z10 BK398))) : p := h
theorem Z60 {p : Prop} (h : p := by rw [hg]; exact Nat.ne_of_gt (blk_lt (g := gb398) (o := .cells #[.slice A0_0 l0_0.length c0_0] 42 (0, 0)) (Z10 BK398))) : p := h
theorem Z61 {p : Prop} (h : p := by rw [hg]; exact Nat.ne_of_lt (blk_lt (g := gb411) (o := .cells #[.slice Ao33 t407.length co33] 34 (0, 0)) (Z10 BK411))) : p := h
theorem Z62 {p : Prop} (h : p := by rw [hg]; exact Nat.ne_of_gt (blk_lt (g := gb411) (o := .cells #[.slice Ao33 t407.length co33] 34 (0, 0)) (Z10 BK411))) : p := h
theorem Z63 {p : Prop} (h : p := by rw [hg]; exact (below_size Z42)) : p := h
end Go.Proofs.Ytkkiibjnpkjijaa.QFnExactPutItems
