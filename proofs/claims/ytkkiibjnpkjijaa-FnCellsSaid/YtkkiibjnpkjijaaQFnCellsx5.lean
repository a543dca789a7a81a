/-
Plain functions for the Go functions that a law reaches, each with a proof that the translation's call comes to just that; no conditions beyond those written in each.
-/
import Derived.Test.YtkkiibjnpkjijaaSFnCells
import Derived.Test.YtkkiibjnpkjijaaQFnCellsx2
import Derived.Test.YtkkiibjnpkjijaaQFnCellsx4
namespace Go.Proofs.Ytkkiibjnpkjijaa.QFnCells
open Go.RowKit Go.Proofs.YtkkiibjnpkjijaaW.PrintWords Go.Proofs.YtkkiibjnpkjijaaW.PrintLast Go.Proofs.YtkkiibjnpkjijaaW.PrintMore
attribute [local go_sem] max2_int min2_int max_two min_two max_three min_three max_four min_four   -- for this text's walks alone
set_option linter.unusedVariables false
set_option linter.unusedSimpArgs false

/-! ### spec_l02Name: function 112 -/
def spec_l02Name.l0 : Nat → List Int → Int → Int → List Int → Int → Int → Option (ByteArray × Int × Int)
 | 0, _, _, _, _, _, _ => none
 | k + 1, x3, x4, x5, x1000, x1001, x1002 => if x5 < x4 then ((spec_l01Below.f x1000 x1001 x1002 47).bind fun bt260 => ((spec_LetterAt.f (wrap64 (1 + bt260.1))).bind fun t263 => (if x3.length < 140737488355328 then (spec_l02Name.l0 k (x3 ++ [t263]) x4 (wrap64 (x5 + 1)) x1000 bt260.2.1 bt260.2.2) else (none)))) else (some (strOfNums x3, x1001, x1002))
def spec_l02Name.f (k : Nat) (s0_0 : List Int) (s0_1 : Int) (s0_2 : Int) : Option (ByteArray × Int × Int) := (spec_l01Once.f s0_0 s0_1 s0_2 2).bind fun bt245 => (if bt245.1 = true then ((spec_l01Pick.f s0_0 bt245.2.1 bt245.2.2 (([(⟨#[100, 117, 112]⟩ : ByteArray), (⟨#[111, 118, 101, 114]⟩ : ByteArray), (⟨#[115, 113, 117, 97, 114, 101]⟩ : ByteArray), (⟨#[97, 33]⟩ : ByteArray), (⟨#[50, 42]⟩ : ByteArray), (⟨#[103, 111]⟩ : ByteArray), (⟨#[45, 105, 102]⟩ : ByteArray), (⟨#[59]⟩ : ByteArray), (⟨#[63]⟩ : ByteArray), (⟨#[114, 114, 114, 114, 114, 114, 114]⟩ : ByteArray), (⟨#[114, 116, 111, 101, 97, 110, 105]⟩ : ByteArray), (⟨#[119, 119, 119, 119, 119, 119]⟩ : ByteArray), (⟨#[113, 113, 113, 113, 113]⟩ : ByteArray), (⟨#[120]⟩ : ByteArray)] : List ByteArray))).bind fun bt251 => (some (bt251.1, bt251.2.1, bt251.2.2))) else ((spec_l01Below.f s0_0 bt245.2.1 bt245.2.2 9).bind fun bt257 => (spec_l02Name.l0 k (([] : List Int)) (wrap64 (1 + bt257.1)) 0 s0_0 bt257.2.1 bt257.2.2)))
theorem spec_l02Name.mono_l : ∀ k, (∀ y0 y1 y2 y3 y4 y5, LeO (spec_l02Name.l0 k y0 y1 y2 y3 y4 y5) (spec_l02Name.l0 (k + 1) y0 y1 y2 y3 y4 y5))
 | 0 => fun _ _ _ _ _ _ r h => by simp [spec_l02Name.l0] at h
 | k + 1 => by
  have ih0 := spec_l02Name.mono_l k
  ·intro y0 y1 y2 y3 y4 y5
   unfold spec_l02Name.l0
   repeat' first
   | (with_reducible exact ih0 _ _ _ _ _ _)
   | (with_reducible exact LeO.refl _)
   | (with_reducible exact LeO.none _)
   | (with_reducible refine LeO.ite ?_ ?_)
   | (with_reducible refine LeO.bind ?_ (fun _ => ?_))
   | exact ih0 _ _ _ _ _ _
   | exact LeO.none _
   | refine LeO.ite ?_ ?_
   | refine LeO.bind ?_ (fun _ => ?_)
theorem spec_l02Name.mono : ∀ a0 a1 a2 k, LeO (spec_l02Name.f k a0 a1 a2) (spec_l02Name.f (k + 1) a0 a1 a2) := by
 intro a0 a1 a2 k
 have ih0 := spec_l02Name.mono_l k
 unfold spec_l02Name.f
 repeat' first
   | (with_reducible exact ih0 _ _ _ _ _ _)
   | (with_reducible exact LeO.refl _)
   | (with_reducible exact LeO.none _)
   | (with_reducible refine LeO.ite ?_ ?_)
   | (with_reducible refine LeO.bind ?_ (fun _ => ?_))
   | exact ih0 _ _ _ _ _ _
   | exact LeO.none _
   | refine LeO.ite ?_ ?_
   | refine LeO.bind ?_ (fun _ => ?_)
set_option maxHeartbeats 8000000 in
set_option maxRecDepth 100000 in
theorem spec_l02Name.calls (k : Nat) (g : Nat) (s0_0 : List Int) (s0_1 : Int) (s0_2 : Int) (r1 : ByteArray) (r2 : Int) (r3 : Int) (w0 w : World) (hI : IsS97 w0 w g s0_0 s0_1 s0_2) (hB : Below w0.heap.size w0 w) (h : spec_l02Name.f k s0_0 s0_1 s0_2 = some (r1, r2, r3)) :
  Calls Try.prog 112 #[.pointer (some ⟨g, 0, none⟩)] w fun e w' => e = .returned (.string r1) ∧ IsS97 w0 w' g s0_0 r2 r3 ∧ Below w0.heap.size w0 w' ∧ KeepBut w w' g none := by
 have HI0 := Aside0.mk hI
 have HK := Z (KeepBut.refl w g none)
 have HL := Aside0.mk hB.size
 clear hI
 have HW0 := Aside0.mk hB.size
 have HB := Aside0.mk hB
 clear hB
 have H : ((spec_l01Once.f s0_0 s0_1 s0_2 2).bind fun bt245 => (if bt245.1 = true then ((spec_l01Pick.f s0_0 bt245.2.1 bt245.2.2 (([(⟨#[100, 117, 112]⟩ : ByteArray), (⟨#[111, 118, 101, 114]⟩ : ByteArray), (⟨#[115, 113, 117, 97, 114, 101]⟩ : ByteArray), (⟨#[97, 33]⟩ : ByteArray), (⟨#[50, 42]⟩ : ByteArray), (⟨#[103, 111]⟩ : ByteArray), (⟨#[45, 105, 102]⟩ : ByteArray), (⟨#[59]⟩ : ByteArray), (⟨#[63]⟩ : ByteArray), (⟨#[114, 114, 114, 114, 114, 114, 114]⟩ : ByteArray), (⟨#[114, 116, 111, 101, 97, 110, 105]⟩ : ByteArray), (⟨#[119, 119, 119, 119, 119, 119]⟩ : ByteArray), (⟨#[113, 113, 113, 113, 113]⟩ : ByteArray), (⟨#[120]⟩ : ByteArray)] : List ByteArray))).bind fun bt251 => (some (bt251.1, bt251.2.1, bt251.2.2))) else ((spec_l01Below.f s0_0 bt245.2.1 bt245.2.2 9).bind fun bt257 => (spec_l02Name.l0 k (([] : List Int)) (wrap64 (1 + bt257.1)) 0 s0_0 bt257.2.1 bt257.2.2)))) = some (r1, r2, r3) := h
 clear h
 replace H := Option.bind_eq_some_iff.mp H
 obtain ⟨⟨t245, t246, t247⟩, A20, H⟩ := H
 replace H : (if t245 = true then ((spec_l01Pick.f s0_0 t246 t247 (([(⟨#[100, 117, 112]⟩ : ByteArray), (⟨#[111, 118, 101, 114]⟩ : ByteArray), (⟨#[115, 113, 117, 97, 114, 101]⟩ : ByteArray), (⟨#[97, 33]⟩ : ByteArray), (⟨#[50, 42]⟩ : ByteArray), (⟨#[103, 111]⟩ : ByteArray), (⟨#[45, 105, 102]⟩ : ByteArray), (⟨#[59]⟩ : ByteArray), (⟨#[63]⟩ : ByteArray), (⟨#[114, 114, 114, 114, 114, 114, 114]⟩ : ByteArray), (⟨#[114, 116, 111, 101, 97, 110, 105]⟩ : ByteArray), (⟨#[119, 119, 119, 119, 119, 119]⟩ : ByteArray), (⟨#[113, 113, 113, 113, 113]⟩ : ByteArray), (⟨#[120]⟩ : ByteArray)] : List ByteArray))).bind fun bt251 => (some (bt251.1, bt251.2.1, bt251.2.2))) else ((spec_l01Below.f s0_0 t246 t247 9).bind fun bt257 => (spec_l02Name.l0 k (([] : List Int)) (wrap64 (1 + bt257.1)) 0 s0_0 bt257.2.1 bt257.2.2))) = some (r1, r2, r3) := H
 have A2 := Aside0.mk A20
 clear A20
 by_cases c3 : t245 = true
 ·subst c3
  have H1 : ((spec_l01Pick.f s0_0 t246 t247 (([(⟨#[100, 117, 112]⟩ : ByteArray), (⟨#[111, 118, 101, 114]⟩ : ByteArray), (⟨#[115, 113, 117, 97, 114, 101]⟩ : ByteArray), (⟨#[97, 33]⟩ : ByteArray), (⟨#[50, 42]⟩ : ByteArray), (⟨#[103, 111]⟩ : ByteArray), (⟨#[45, 105, 102]⟩ : ByteArray), (⟨#[59]⟩ : ByteArray), (⟨#[63]⟩ : ByteArray), (⟨#[114, 114, 114, 114, 114, 114, 114]⟩ : ByteArray), (⟨#[114, 116, 111, 101, 97, 110, 105]⟩ : ByteArray), (⟨#[119, 119, 119, 119, 119, 119]⟩ : ByteArray), (⟨#[113, 113, 113, 113, 113]⟩ : ByteArray), (⟨#[120]⟩ : ByteArray)] : List ByteArray))).bind fun bt251 => (some (bt251.1, bt251.2.1, bt251.2.2))) = some (r1, r2, r3) := Z11
  clear H
  have H := H1
  clear H1
  obtain ⟨y248, hy248⟩ : ∃ y_ : List ByteArray, y_ = (([(⟨#[100, 117, 112]⟩ : ByteArray), (⟨#[111, 118, 101, 114]⟩ : ByteArray), (⟨#[115, 113, 117, 97, 114, 101]⟩ : ByteArray), (⟨#[97, 33]⟩ : ByteArray), (⟨#[50, 42]⟩ : ByteArray), (⟨#[103, 111]⟩ : ByteArray), (⟨#[45, 105, 102]⟩ : ByteArray), (⟨#[59]⟩ : ByteArray), (⟨#[63]⟩ : ByteArray), (⟨#[114, 114, 114, 114, 114, 114, 114]⟩ : ByteArray), (⟨#[114, 116, 111, 101, 97, 110, 105]⟩ : ByteArray), (⟨#[119, 119, 119, 119, 119, 119]⟩ : ByteArray), (⟨#[113, 113, 113, 113, 113]⟩ : ByteArray), (⟨#[120]⟩ : ByteArray)] : List ByteArray)) := ⟨_, rfl⟩
  replace H : ((spec_l01Pick.f s0_0 t246 t247 y248).bind fun bt251 => (some (bt251.1, bt251.2.1, bt251.2.2))) = some (r1, r2, r3) := by first | (rw [hy248]; with_reducible exact H) | (have H2_ := (Option.bind_some _ _).symm.trans H; rw [hy248]; with_reducible exact H2_) | (have H2_ := (Option.bind_some _ _).symm.trans H; with_reducible exact H2_) | with_reducible exact H | (rw [hy248]; exact H) | exact H
  have Ny248 := Aside0.mk hy248
  clear hy248
  replace H := Option.bind_eq_some_iff.mp H
  obtain ⟨⟨t251, t252, t253⟩, A40, H⟩ := H
  replace H : (some (t251, t252, t253)) = some (r1, r2, r3) := H
  have A4 := Aside0.mk A40
  clear A40
  simp only [Option.some.injEq, Prod.mk.injEq] at H
  obtain ⟨rfl, rfl, rfl⟩ := H
  go_enter Try.func112, Try.ntmps112
  go_wp2_with (first | ((with_reducible refine gate_callee (f := 87) rfl ?_); refine goesL_ (some 7) rfl rfl Try.func87 Z0 rfl #[.pointer (some ⟨g, 0, none⟩), .int .i64 2] rfl Z10 ?_; (with_reducible refine (spec_l01Once.calls g s0_0 s0_1 s0_2 2 true t246 t247 w0 _ ?side1 ?side2 A2.out).mono ?_); (case side1 => exact Z64); (case side2 => exact Z65); rintro e w5 ⟨rfl, hi, hb, hk⟩; refine ⟨_, rfl, ?_⟩; replace HK := Z (KeepBut.trans Z66 hk (.inl rfl)); replace HB := Z (hb); replace HI0 := Z (hi); (try clear hb); (try clear hb2); (try clear hk); (try clear hi)) | ((with_reducible refine gate_dst (N := 9) rfl ?_); refine Kd.R_lit Kd.string _ 9 (by rfl) (N := 9) (by rfl) (xs := ([(⟨#[100, 117, 112]⟩ : ByteArray), (⟨#[111, 118, 101, 114]⟩ : ByteArray), (⟨#[115, 113, 117, 97, 114, 101]⟩ : ByteArray), (⟨#[97, 33]⟩ : ByteArray), (⟨#[50, 42]⟩ : ByteArray), (⟨#[103, 111]⟩ : ByteArray), (⟨#[45, 105, 102]⟩ : ByteArray), (⟨#[59]⟩ : ByteArray), (⟨#[63]⟩ : ByteArray), (⟨#[114, 114, 114, 114, 114, 114, 114]⟩ : ByteArray), (⟨#[114, 116, 111, 101, 97, 110, 105]⟩ : ByteArray), (⟨#[119, 119, 119, 119, 119, 119]⟩ : ByteArray), (⟨#[113, 113, 113, 113, 113]⟩ : ByteArray), (⟨#[120]⟩ : ByteArray)] : List ByteArray)) (inner := [.string (⟨#[100, 117, 112]⟩ : ByteArray), .string (⟨#[111, 118, 101, 114]⟩ : ByteArray), .string (⟨#[115, 113, 117, 97, 114, 101]⟩ : ByteArray), .string (⟨#[97, 33]⟩ : ByteArray), .string (⟨#[50, 42]⟩ : ByteArray), .string (⟨#[103, 111]⟩ : ByteArray), .string (⟨#[45, 105, 102]⟩ : ByteArray), .string (⟨#[59]⟩ : ByteArray), .string (⟨#[63]⟩ : ByteArray), .string (⟨#[114, 114, 114, 114, 114, 114, 114]⟩ : ByteArray), .string (⟨#[114, 116, 111, 101, 97, 110, 105]⟩ : ByteArray), .string (⟨#[119, 119, 119, 119, 119, 119]⟩ : ByteArray), .string (⟨#[113, 113, 113, 113, 113]⟩ : ByteArray), .string (⟨#[120]⟩ : ByteArray)]) (ok := fun _ => True) (okp := fun _ => True) Z7 (Reps.one (show Kd.M Kd.string _ _ _ (⟨#[100, 117, 112]⟩ : ByteArray) [.string (⟨#[100, 117, 112]⟩ : ByteArray)] from rfl) (Reps.one (show Kd.M Kd.string _ _ _ (⟨#[111, 118, 101, 114]⟩ : ByteArray) [.string (⟨#[111, 118, 101, 114]⟩ : ByteArray)] from rfl) (Reps.one (show Kd.M Kd.string _ _ _ (⟨#[115, 113, 117, 97, 114, 101]⟩ : ByteArray) [.string (⟨#[115, 113, 117, 97, 114, 101]⟩ : ByteArray)] from rfl) (Reps.one (show Kd.M Kd.string _ _ _ (⟨#[97, 33]⟩ : ByteArray) [.string (⟨#[97, 33]⟩ : ByteArray)] from rfl) (Reps.one (show Kd.M Kd.string _ _ _ (⟨#[50, 42]⟩ : ByteArray) [.string (⟨#[50, 42]⟩ : ByteArray)] from rfl) (Reps.one (show Kd.M Kd.string _ _ _ (⟨#[103, 111]⟩ : ByteArray) [.string (⟨#[103, 111]⟩ : ByteArray)] from rfl) (Reps.one (show Kd.M Kd.string _ _ _ (⟨#[45, 105, 102]⟩ : ByteArray) [.string (⟨#[45, 105, 102]⟩ : ByteArray)] from rfl) (Reps.one (show Kd.M Kd.string _ _ _ (⟨#[59]⟩ : ByteArray) [.string (⟨#[59]⟩ : ByteArray)] from rfl) (Reps.one (show Kd.M Kd.string _ _ _ (⟨#[63]⟩ : ByteArray) [.string (⟨#[63]⟩ : ByteArray)] from rfl) (Reps.one (show Kd.M Kd.string _ _ _ (⟨#[114, 114, 114, 114, 114, 114, 114]⟩ : ByteArray) [.string (⟨#[114, 114, 114, 114, 114, 114, 114]⟩ : ByteArray)] from rfl) (Reps.one (show Kd.M Kd.string _ _ _ (⟨#[114, 116, 111, 101, 97, 110, 105]⟩ : ByteArray) [.string (⟨#[114, 116, 111, 101, 97, 110, 105]⟩ : ByteArray)] from rfl) (Reps.one (show Kd.M Kd.string _ _ _ (⟨#[119, 119, 119, 119, 119, 119]⟩ : ByteArray) [.string (⟨#[119, 119, 119, 119, 119, 119]⟩ : ByteArray)] from rfl) (Reps.one (show Kd.M Kd.string _ _ _ (⟨#[113, 113, 113, 113, 113]⟩ : ByteArray) [.string (⟨#[113, 113, 113, 113, 113]⟩ : ByteArray)] from rfl) (Reps.one (show Kd.M Kd.string _ _ _ (⟨#[120]⟩ : ByteArray) [.string (⟨#[120]⟩ : ByteArray)] from rfl) (Reps.none _ _))))))))))))))) (fun _ hk => hk) trivial (Below.refl _ _) (Nat.le_refl _) (by simp) ?_; intro v249 w6 ho7 hb hg_ hnew_; clear hg_ hnew_; (first | rw [← Ny248.out] at ho7 | (simp only [Int.reduceToNat] at ho7; rw [← Ny248.out] at ho7)); have HO250 := Z (Kd.R_lower ho7 (keep_size (w := w) (g := g) (row := none) Z66)); replace HK := Z (KeepBut.trans Z66 (KeepBut.of_below hb g none) (.inl rfl)); replace HB := Z (below_step Z65 hb); replace HI0 := Z (IsS97.below Z64 hb); clear hb ho7; obtain ⟨Ao8, co8, eo8⟩ := Kd.R_slice HO250.out; subst eo8) | ((with_reducible refine gate_callee (f := 105) rfl ?_); refine goesL_ (some 10) rfl rfl Try.func105 Z0 rfl #[.pointer (some ⟨g, 0, none⟩), .slice Ao8 y248.length co8] rfl Z10 ?_; (with_reducible refine (spec_l01Pick.calls g s0_0 t246 t247 _ _ y248 t251 t252 t253 w0 _ ?side1 ?side2 ?side3 ?side4 ?side5 A4.out).mono ?_); (case side1 => exact Z64); (case side2 => exact Z65); (case side3 => exact (Z17 HO250)); (case side4 => exact (Kd.R_reads' HO250.out).2.1); (case side5 => exact far_slice (IsS97.own_ne HI0.out HO250.out (by decide))); rintro e w9 ⟨rfl, hi, hb, hk⟩; refine ⟨_, rfl, ?_⟩; replace HO250 := Z (Kd.R_mono (Kd.R_keep (IsS97.apart (show IsS97 w0 _ g s0_0 t246 t247 from Z64) (Z12 HO250) (by decide)) hk (fun _ h => h.2)) (fun _ h => h.1)); replace HK := Z (KeepBut.trans Z66 hk (.inl rfl)); replace HB := Z (hb); replace HI0 := Z (hi); (try clear hb); (try clear hb2); (try clear hk); (try clear hi)))
  go_ret
  exact ⟨Z9, Z64, Z65, Z66⟩
 ·replace c3 := Bool.eq_false_iff.mpr c3
  subst c3
  have H1 : ((spec_l01Below.f s0_0 t246 t247 9).bind fun bt257 => (spec_l02Name.l0 k (([] : List Int)) (wrap64 (1 + bt257.1)) 0 s0_0 bt257.2.1 bt257.2.2)) = some (r1, r2, r3) := by rw [if_neg (show ¬ (false = true) by decide)] at H; exact H
  clear H
  have H := H1
  clear H1
  obtain ⟨y254, hy254⟩ : ∃ y_ : List Int, y_ = (([] : List Int)) := ⟨_, rfl⟩
  replace H : ((spec_l01Below.f s0_0 t246 t247 9).bind fun bt257 => (spec_l02Name.l0 k y254 (wrap64 (1 + bt257.1)) 0 s0_0 bt257.2.1 bt257.2.2)) = some (r1, r2, r3) := by first | (rw [hy254]; with_reducible exact H) | (have H2_ := (Option.bind_some _ _).symm.trans H; rw [hy254]; with_reducible exact H2_) | (have H2_ := (Option.bind_some _ _).symm.trans H; with_reducible exact H2_) | with_reducible exact H | (rw [hy254]; exact H) | exact H
  have Ny254 := Aside0.mk hy254
  clear hy254
  replace H := Option.bind_eq_some_iff.mp H
  obtain ⟨⟨t257, t258, t259⟩, A100, H⟩ := H
  replace H : (spec_l02Name.l0 k y254 (wrap64 (1 + t257)) 0 s0_0 t258 t259) = some (r1, r2, r3) := H
  have A10 := Aside0.mk A100
  clear A100
  have H' := Aside0.mk H
  clear H
  go_enter Try.func112, Try.ntmps112
  go_wp2_with (first | ((with_reducible refine gate_callee (f := 87) rfl ?_); refine goesL_ (some 7) rfl rfl Try.func87 Z0 rfl #[.pointer (some ⟨g, 0, none⟩), .int .i64 2] rfl Z10 ?_; (with_reducible refine (spec_l01Once.calls g s0_0 s0_1 s0_2 2 false t246 t247 w0 _ ?side1 ?side2 A2.out).mono ?_); (case side1 => exact Z64); (case side2 => exact Z65); rintro e w11 ⟨rfl, hi, hb, hk⟩; refine ⟨_, rfl, ?_⟩; replace HK := Z (KeepBut.trans Z66 hk (.inl rfl)); replace HB := Z (hb); replace HI0 := Z (hi); (try clear hb); (try clear hb2); (try clear hk); (try clear hi)) | ((with_reducible refine gate_dst (N := 11) rfl ?_); refine Kd.R_lit (Kd.int .u8) _ 5 (by rfl) (N := 11) (by rfl) (xs := ([] : List Int)) (inner := []) (ok := fun _ => True) (okp := fun _ => True) Z7 (Reps.none _ _) (fun _ hk => hk) trivial (Below.refl _ _) (Nat.le_refl _) (by simp) ?_; intro v255 w12 ho13 hb hg_ hnew_; clear hg_ hnew_; (first | rw [← Ny254.out] at ho13 | (simp only [Int.reduceToNat] at ho13; rw [← Ny254.out] at ho13)); have HO256 := Z (Kd.R_lower ho13 (keep_size (w := w) (g := g) (row := none) Z66)); replace HK := Z (KeepBut.trans Z66 (KeepBut.of_below hb g none) (.inl rfl)); replace HB := Z (below_step Z65 hb); replace HI0 := Z (IsS97.below Z64 hb); clear hb ho13) | ((with_reducible refine gate_callee (f := 73) rfl ?_); refine goesL_ (some 13) rfl rfl Try.func73 Z0 rfl #[.pointer (some ⟨g, 0, none⟩), .int .i64 9] rfl Z10 ?_; (with_reducible refine (spec_l01Below.calls g s0_0 t246 t247 9 t257 t258 t259 w0 _ ?side1 ?side2 A10.out).mono ?_); (case side1 => exact Z64); (case side2 => exact Z65); rintro e w14 ⟨rfl, hi, hb, hk⟩; refine ⟨_, rfl, ?_⟩; replace HO256 := Z (Kd.R_mono (Kd.R_keep (IsS97.apart (show IsS97 w0 _ g s0_0 t246 t247 from Z64) (Z12 HO256) (by decide)) hk (fun _ h => h.2)) (fun _ h => h.1)); replace HK := Z (KeepBut.trans Z66 hk (.inl rfl)); replace HB := Z (hb); replace HI0 := Z (hi); (try clear hb); (try clear hb2); (try clear hk); (try clear hi)))
  go_loopg [3, 5] k (fun kq v3 v5 w' => ∃ (x3_1 : List Int) (x5_1 : Int) (x1001_1 : Int) (x1002_1 : Int), v5 = .int .i64 x5_1 ∧ Aside0 (spec_l02Name.l0 kq x3_1 (wrap64 (1 + t257)) x5_1 s0_0 x1001_1 x1002_1 = some (r1, r2, r3)) ∧ Aside0 (kq ≤ k) ∧ Aside0 (Kd.R (Kd.int .u8) 5 w' w.heap.size (fun _ => True) v3 x3_1) ∧ Aside0 (IsS97 w0 w' g s0_0 x1001_1 x1002_1) ∧ Aside0 (KeepBut w w' g none) ∧ Aside0 (Below w0.heap.size w0 w'))
  case atStart => exact ⟨(y254), (0), (t258), (t259), Z2, H', ⟨Nat.le_refl _⟩, ⟨(Z12 HO256)⟩, ⟨Z64⟩, ⟨Z66⟩, ⟨Z65⟩⟩
  case round =>
   clear H'
   try clear c1
   try clear p2
   try clear c3
   try clear p6
   try clear c7
   try clear c8
   try clear c10
   try clear c11
   obtain ⟨x3_1, x5_1, x1001_1, x1002_1, rfl, HA, HK1, HO_3, HI0, HK, HB⟩ := hrel
   cases gk with
   | zero => exact absurd HA.out (by simp [spec_l02Name.l0])
   | succ k1 =>
    have H := HA.out
    clear HA
    simp only [spec_l02Name.l0] at H
    by_cases c15 : x5_1 < (wrap64 (1 + t257))
    ·rw [if_pos c15] at H
     have c15b0 : decide (x5_1 < (wrap64 (1 + t257))) = true := decide_eq_true c15
     clear c15
     replace H := Option.bind_eq_some_iff.mp H
     obtain ⟨⟨t260, t261, t262⟩, A160, H⟩ := H
     replace H : ((spec_LetterAt.f (wrap64 (1 + t260))).bind fun t263 => (if x3_1.length < 140737488355328 then (spec_l02Name.l0 k1 (x3_1 ++ [t263]) (wrap64 (1 + t257)) (wrap64 (x5_1 + 1)) s0_0 t261 t262) else (none))) = some (r1, r2, r3) := H
     have A16 := Aside0.mk A160
     clear A160
     replace H := Option.bind_eq_some_iff.mp H
     obtain ⟨t263, A170, H⟩ := H
     replace H : (if x3_1.length < 140737488355328 then (spec_l02Name.l0 k1 (x3_1 ++ [t263]) (wrap64 (1 + t257)) (wrap64 (x5_1 + 1)) s0_0 t261 t262) else (none)) = some (r1, r2, r3) := H
     have A17 := Aside0.mk A170
     clear A170
     by_cases c18 : x3_1.length < 140737488355328
     ·rw [if_pos c18] at H
      have LMc18 := Aside0.mk c18
      clear c18
      obtain ⟨y264, hy264⟩ : ∃ y_ : List Int, y_ = (x3_1 ++ [t263]) := ⟨_, rfl⟩
      replace H : (spec_l02Name.l0 k1 y264 (wrap64 (1 + t257)) (wrap64 (x5_1 + 1)) s0_0 t261 t262) = some (r1, r2, r3) := by first | (rw [hy264]; with_reducible exact H) | (have H2_ := (Option.bind_some _ _).symm.trans H; rw [hy264]; with_reducible exact H2_) | (have H2_ := (Option.bind_some _ _).symm.trans H; with_reducible exact H2_) | with_reducible exact H | (rw [hy264]; exact H) | exact H
      have Ny264 := Aside0.mk hy264
      clear hy264
      have H' := Aside0.mk H
      clear H
      go_wp2_with (first | ((with_reducible refine gate_callee (f := 73) rfl ?_); refine goesL_ (some 22) rfl rfl Try.func73 Z0 rfl #[.pointer (some ⟨g, 0, none⟩), .int .i64 47] rfl Z10 ?_; (with_reducible refine (spec_l01Below.calls g s0_0 x1001_1 x1002_1 47 t260 t261 t262 w0 _ ?side1 ?side2 A16.out).mono ?_); (case side1 => exact Z64); (case side2 => exact Z65); rintro e w19 ⟨rfl, hi, hb, hk⟩; refine ⟨_, rfl, ?_⟩; replace HO_3 := Z (Kd.R_mono (Kd.R_keep (IsS97.apart (show IsS97 w0 _ g s0_0 x1001_1 x1002_1 from Z64) (Z12 HO_3) (by decide)) hk (fun _ h => h.2)) (fun _ h => h.1)); replace HK := Z (KeepBut.trans Z66 hk (.inl rfl)); replace HB := Z (hb); replace HI0 := Z (hi); (try clear hb); (try clear hb2); (try clear hk); (try clear hi)) | ((with_reducible refine gate_callee (f := 118) rfl ?_); refine goesL_ (some 24) rfl rfl Try.func118 Z0 rfl #[.int .i64 (wrap64 (1 + t260))] rfl Z10 ?_; (with_reducible refine (spec_LetterAt.calls (wrap64 (1 + t260)) t263 _ A17.out).mono ?_); rintro e w' ⟨rfl, ⟨nd, rfl⟩⟩; refine ⟨_, rfl, ?_⟩) | ((with_reducible refine gate_builtin (b := .append) (xs := #[.tmp 20, .tmp 25]) rfl ?_); at_builtin; refine Kd.R_append (Kd.int .u8) w.heap.size rfl (.tmp 20) (.tmp 25) 22 5 (.int .u8 0) 1 rfl Try.underlying22 info5 rfl (by decide) (by omega) u3 x3_1 t263 [.int .u8 t263] (fun _ => True) (fun _ => False) rfl rfl ?aP (fun _ hk => hk.elim) ?aF ?aO (Below.refl _ _) ?aS ?aL ?_; (case aP => exact rfl); (case aF => exact (fun _ _ => trivial)); (case aO => exact (Z12 HO_3)); (case aS => exact (keep_size (w := w) (g := g) (row := none) Z66)); (case aL => have := LMc18.out; omega); intro v265 w20 ho hb hg hat; rw [← Ny264.out] at ho; replace HB := Z (below_weaken Z65 HL.out hb); replace HI0 := Z (IsS97.grown Z64 hg (IsS97.own_ne HI0.out HO_3.out (by decide))); replace HK := Z (KeepBut.trans Z66 (KeepBut.of_grown hg g) (Kd.R_base2 HO_3.out)); have HO266 := Z (ho); clear HO_3; clear ho hb hg hat))
      go_roundg k1
      case measure => have := HK1.out; omega
      case rel => exact ⟨(y264), (wrap64 (x5_1 + 1)), (t261), (t262), Z2, H', ⟨Z6⟩, ⟨(Z12 HO266)⟩, ⟨Z64⟩, ⟨Z66⟩, ⟨Z65⟩⟩
     ·rw [if_neg c18] at H
      exact absurd H (by simp)
    ·rw [if_neg c15] at H
     have c15b0 : decide (x5_1 < (wrap64 (1 + t257))) = false := decide_eq_false c15
     clear c15
     simp only [Option.some.injEq, Prod.mk.injEq] at H
     obtain ⟨rfl, rfl, rfl⟩ := H
     have hcv21 := own_string (P := Try.prog) Try.underlying22 Try.underlying5 Try.underlying9 (Kd.own_of_R HO_3.out)
     have hcw21 := fun nq_ : Nat => own_string (P := Try.prog) Try.underlying22 Try.underlying5 Try.underlying9 (Kd.own_of_R (Kd.R_drewN HO_3.out nq_))
     go_wp2
     go_ret
     exact ⟨Z9, Z64, Z65, Z66⟩

/-! ### spec_l04Some: function 84 -/
def spec_l04Some.f (k : Nat) (s0_0 : List Int) (s0_1 : Int) (s0_2 : Int) : Option (Int × ByteArray × Int × Bool × Int × Int × Int) := (spec_l01Below.f s0_0 s0_1 s0_2 8).bind fun bt268 => (if bt268.1 = 0 then ((spec_l04Int.f s0_0 bt268.2.1 bt268.2.2).bind fun bt271 => ((spec_l01Once.f s0_0 bt271.2.1 bt271.2.2 3).bind fun bt274 => (some (7, (⟨#[]⟩ : ByteArray), bt271.1, bt274.1, 0, bt274.2.1, bt274.2.2)))) else (if bt268.1 = 1 then ((spec_l04Int.f s0_0 bt268.2.1 bt268.2.2).bind fun bt277 => ((spec_l01Once.f s0_0 bt277.2.1 bt277.2.2 3).bind fun bt280 => (some (8, (⟨#[]⟩ : ByteArray), bt277.1, bt280.1, 0, bt280.2.1, bt280.2.2)))) else (if bt268.1 = 2 then ((spec_l01Pick.f s0_0 bt268.2.1 bt268.2.2 (([(⟨#[120]⟩ : ByteArray), (⟨#[97, 116]⟩ : ByteArray), (⟨#[113, 113, 113, 113]⟩ : ByteArray), (⟨#[116, 101, 110]⟩ : ByteArray)] : List ByteArray))).bind fun bt286 => ((spec_l04Int.f s0_0 bt286.2.1 bt286.2.2).bind fun bt289 => (some (9, bt286.1, bt289.1, false, 0, bt289.2.1, bt289.2.2)))) else ((spec_l01Below.f s0_0 bt268.2.1 bt268.2.2 6).bind fun bt292 => ((spec_l02Name.f k s0_0 bt292.2.1 bt292.2.2).bind fun bt295 => (some (wrap64 (1 + bt292.1), bt295.1, 0, false, 0, bt295.2.1, bt295.2.2)))))))
theorem spec_l04Some.mono : ∀ a0 a1 a2 k, LeO (spec_l04Some.f k a0 a1 a2) (spec_l04Some.f (k + 1) a0 a1 a2) := by
 intro a0 a1 a2 k
 unfold spec_l04Some.f
 repeat' first
   | (with_reducible exact spec_l02Name.mono _ _ _ _)
   | (with_reducible exact LeO.refl _)
   | (with_reducible exact LeO.none _)
   | (with_reducible refine LeO.ite ?_ ?_)
   | (with_reducible refine LeO.bind ?_ (fun _ => ?_))
   | exact spec_l02Name.mono _ _ _ _
   | exact LeO.none _
   | refine LeO.ite ?_ ?_
   | refine LeO.bind ?_ (fun _ => ?_)
set_option maxHeartbeats 8000000 in
set_option maxRecDepth 100000 in
theorem spec_l04Some.calls (k : Nat) (g : Nat) (s0_0 : List Int) (s0_1 : Int) (s0_2 : Int) (r1 : Int) (r2 : ByteArray) (r3 : Int) (r4 : Bool) (r5 : Int) (r6 : Int) (r7 : Int) (w0 w : World) (hI : IsS97 w0 w g s0_0 s0_1 s0_2) (hB : Below w0.heap.size w0 w) (h : spec_l04Some.f k s0_0 s0_1 s0_2 = some (r1, r2, r3, r4, r5, r6, r7)) :
  Calls Try.prog 84 #[.pointer (some ⟨g, 0, none⟩)] w fun e w' => e = .returned (.agg #[.int .i64 r1, .string r2, .int .i32 r3, .bool r4, .int .u32 r5]) ∧ IsS97 w0 w' g s0_0 r6 r7 ∧ Below w0.heap.size w0 w' ∧ KeepBut w w' g none := by
 have hu51 := Try.underlying51
 have HI0 := Aside0.mk hI
 have HK := Z (KeepBut.refl w g none)
 have HL := Aside0.mk hB.size
 clear hI
 have HW0 := Aside0.mk hB.size
 have HB := Aside0.mk hB
 clear hB
 have H : ((spec_l01Below.f s0_0 s0_1 s0_2 8).bind fun bt268 => (if bt268.1 = 0 then ((spec_l04Int.f s0_0 bt268.2.1 bt268.2.2).bind fun bt271 => ((spec_l01Once.f s0_0 bt271.2.1 bt271.2.2 3).bind fun bt274 => (some (7, (⟨#[]⟩ : ByteArray), bt271.1, bt274.1, 0, bt274.2.1, bt274.2.2)))) else (if bt268.1 = 1 then ((spec_l04Int.f s0_0 bt268.2.1 bt268.2.2).bind fun bt277 => ((spec_l01Once.f s0_0 bt277.2.1 bt277.2.2 3).bind fun bt280 => (some (8, (⟨#[]⟩ : ByteArray), bt277.1, bt280.1, 0, bt280.2.1, bt280.2.2)))) else (if bt268.1 = 2 then ((spec_l01Pick.f s0_0 bt268.2.1 bt268.2.2 (([(⟨#[120]⟩ : ByteArray), (⟨#[97, 116]⟩ : ByteArray), (⟨#[113, 113, 113, 113]⟩ : ByteArray), (⟨#[116, 101, 110]⟩ : ByteArray)] : List ByteArray))).bind fun bt286 => ((spec_l04Int.f s0_0 bt286.2.1 bt286.2.2).bind fun bt289 => (some (9, bt286.1, bt289.1, false, 0, bt289.2.1, bt289.2.2)))) else ((spec_l01Below.f s0_0 bt268.2.1 bt268.2.2 6).bind fun bt292 => ((spec_l02Name.f k s0_0 bt292.2.1 bt292.2.2).bind fun bt295 => (some (wrap64 (1 + bt292.1), bt295.1, 0, false, 0, bt295.2.1, bt295.2.2)))))))) = some (r1, r2, r3, r4, r5, r6, r7) := h
 clear h
 replace H := Option.bind_eq_some_iff.mp H
 obtain ⟨⟨t268, t269, t270⟩, A20, H⟩ := H
 replace H : (if t268 = 0 then ((spec_l04Int.f s0_0 t269 t270).bind fun bt271 => ((spec_l01Once.f s0_0 bt271.2.1 bt271.2.2 3).bind fun bt274 => (some (7, (⟨#[]⟩ : ByteArray), bt271.1, bt274.1, 0, bt274.2.1, bt274.2.2)))) else (if t268 = 1 then ((spec_l04Int.f s0_0 t269 t270).bind fun bt277 => ((spec_l01Once.f s0_0 bt277.2.1 bt277.2.2 3).bind fun bt280 => (some (8, (⟨#[]⟩ : ByteArray), bt277.1, bt280.1, 0, bt280.2.1, bt280.2.2)))) else (if t268 = 2 then ((spec_l01Pick.f s0_0 t269 t270 (([(⟨#[120]⟩ : ByteArray), (⟨#[97, 116]⟩ : ByteArray), (⟨#[113, 113, 113, 113]⟩ : ByteArray), (⟨#[116, 101, 110]⟩ : ByteArray)] : List ByteArray))).bind fun bt286 => ((spec_l04Int.f s0_0 bt286.2.1 bt286.2.2).bind fun bt289 => (some (9, bt286.1, bt289.1, false, 0, bt289.2.1, bt289.2.2)))) else ((spec_l01Below.f s0_0 t269 t270 6).bind fun bt292 => ((spec_l02Name.f k s0_0 bt292.2.1 bt292.2.2).bind fun bt295 => (some (wrap64 (1 + bt292.1), bt295.1, 0, false, 0, bt295.2.1, bt295.2.2))))))) = some (r1, r2, r3, r4, r5, r6, r7) := H
 have A2 := Aside0.mk A20
 clear A20
 by_cases c3 : t268 = 0
 ·rw [if_pos c3] at H
  have c3b0 : (t268 == 0) = true := beq_iff_eq.mpr c3
  have c3b1 : (t268 != 0) = false := bne_eq_false_iff_eq.mpr c3
  clear c3
  replace H := Option.bind_eq_some_iff.mp H
  obtain ⟨⟨t271, t272, t273⟩, A40, H⟩ := H
  replace H : ((spec_l01Once.f s0_0 t272 t273 3).bind fun bt274 => (some (7, (⟨#[]⟩ : ByteArray), t271, bt274.1, 0, bt274.2.1, bt274.2.2))) = some (r1, r2, r3, r4, r5, r6, r7) := H
  have A4 := Aside0.mk A40
  clear A40
  replace H := Option.bind_eq_some_iff.mp H
  obtain ⟨⟨t274, t275, t276⟩, A50, H⟩ := H
  replace H : (some (7, (⟨#[]⟩ : ByteArray), t271, t274, 0, t275, t276)) = some (r1, r2, r3, r4, r5, r6, r7) := H
  have A5 := Aside0.mk A50
  clear A50
  simp only [Option.some.injEq, Prod.mk.injEq] at H
  obtain ⟨rfl, rfl, rfl, rfl, rfl, rfl, rfl⟩ := H
  go_enter Try.func84, Try.ntmps84
  go_wp2_with (first | ((with_reducible refine gate_dst (N := 2) rfl ?_); refine box_event (by rfl) (N := 2) (by rfl) (cs := #[.int .i64 0, .string (⟨#[]⟩ : ByteArray), .int .i32 0, .bool false, .int .u32 0]) (t := 51) Z7 ?_; intro gb267 hg w6 hbox hb; replace HB := Z (below_step Z65 hb); have BK267 := Z (hbox); have GW267 := Z ((Z77 : w.heap.size ≤ gb267)); have GE267 := Z ((Nat.le_trans HW0.out (Z77 : w.heap.size ≤ gb267) : w0.heap.size ≤ gb267)); replace HK := Z (KeepBut.trans Z66 (KeepBut.of_below hb g none) (.inl rfl)); have NB0_267 := Z ((Z78 : g ≠ gb267)); have NB267_0 := Z ((Z79 : gb267 ≠ g)); replace HI0 := Z (IsS97.below Z64 hb); clear hb hbox hg) | ((with_reducible refine gate_callee (f := 73) rfl ?_); refine goesL_ (some 4) rfl rfl Try.func73 Z0 rfl #[.pointer (some ⟨g, 0, none⟩), .int .i64 8] rfl Z10 ?_; (with_reducible refine (spec_l01Below.calls g s0_0 s0_1 s0_2 8 t268 t269 t270 w0 _ ?side1 ?side2 A2.out).mono ?_); (case side1 => exact Z64); (case side2 => exact Z65); rintro e w7 ⟨rfl, hi, hb, hk⟩; refine ⟨_, rfl, ?_⟩; replace BK267 := Z (KeepBut.blk hk (g' := gb267) (o := .cells #[.int .i64 0, .string (⟨#[]⟩ : ByteArray), .int .i32 0, .bool false, .int .u32 0] 51 (0, 0)) (Z8 BK267) NB267_0.out (by simp)); replace HK := Z (KeepBut.trans Z66 hk (.inl rfl)); replace HB := Z (hb); replace HI0 := Z (hi); (try clear hb); (try clear hb2); (try clear hk); (try clear hi)) | ((with_reducible refine gate_callee (f := 111) rfl ?_); refine goesL_ (some 8) rfl rfl Try.func111 Z0 rfl #[.pointer (some ⟨g, 0, none⟩)] rfl Z10 ?_; (with_reducible refine (spec_l04Int.calls g s0_0 t269 t270 t271 t272 t273 w0 _ ?side1 ?side2 A4.out).mono ?_); (case side1 => exact Z64); (case side2 => exact Z65); rintro e w8 ⟨rfl, hi, hb, hk⟩; refine ⟨_, rfl, ?_⟩; replace BK267 := Z (KeepBut.blk hk (g' := gb267) (o := .cells #[.int .i64 0, .string (⟨#[]⟩ : ByteArray), .int .i32 0, .bool false, .int .u32 0] 51 (0, 0)) (Z8 BK267) NB267_0.out (by simp)); replace HK := Z (KeepBut.trans Z66 hk (.inl rfl)); replace HB := Z (hb); replace HI0 := Z (hi); (try clear hb); (try clear hb2); (try clear hk); (try clear hi)) | ((with_reducible refine gate_callee (f := 87) rfl ?_); refine goesL_ (some 10) rfl rfl Try.func87 Z0 rfl #[.pointer (some ⟨g, 0, none⟩), .int .i64 3] rfl Z10 ?_; (with_reducible refine (spec_l01Once.calls g s0_0 t272 t273 3 t274 t275 t276 w0 _ ?side1 ?side2 A5.out).mono ?_); (case side1 => exact Z64); (case side2 => exact Z65); rintro e w9 ⟨rfl, hi, hb, hk⟩; refine ⟨_, rfl, ?_⟩; replace BK267 := Z (KeepBut.blk hk (g' := gb267) (o := .cells #[.int .i64 0, .string (⟨#[]⟩ : ByteArray), .int .i32 0, .bool false, .int .u32 0] 51 (0, 0)) (Z8 BK267) NB267_0.out (by simp)); replace HK := Z (KeepBut.trans Z66 hk (.inl rfl)); replace HB := Z (hb); replace HI0 := Z (hi); (try clear hb); (try clear hb2); (try clear hk); (try clear hi); have hnb10 := NB267_0.out; have hnc10 := NB0_267.out; have hcz11_0 : w9.cell? ⟨gb267, 0, none⟩ = some (.int .i64 0) := (blk_cell BK267.out 0).trans rfl; have hcz11_1 : w9.cell? ⟨gb267, 1, none⟩ = some (.string (⟨#[]⟩ : ByteArray)) := (blk_cell BK267.out 1).trans rfl; have hcz11_2 : w9.cell? ⟨gb267, 2, none⟩ = some (.int .i32 0) := (blk_cell BK267.out 2).trans rfl; have hcz11_3 : w9.cell? ⟨gb267, 3, none⟩ = some (.bool false) := (blk_cell BK267.out 3).trans rfl; have hcz11_4 : w9.cell? ⟨gb267, 4, none⟩ = some (.int .u32 0) := (blk_cell BK267.out 4).trans rfl; have hfz11_0 := blk_frozen BK267.out 0; have hfz11_1 := blk_frozen BK267.out 1; have hfz11_2 := blk_frozen BK267.out 2; have hfz11_3 := blk_frozen BK267.out 3; have hfz11_4 := blk_frozen BK267.out 4))
  refine bodyPost_ret (results_cell_row rfl _ _ gb267 51 #[.int .i64 7, .string (⟨#[]⟩ : ByteArray), .int .i32 t271, .bool t274, .int .u32 0] (0, 0) _ rfl (by (with_reducible repeat (first | refine blk_drewN ?_ _ | refine blk_drew ?_ | refine blk_alloc ?_ _)); refine blk_put (cs := #[.int .i64 7, .string (⟨#[]⟩ : ByteArray), .int .i32 t271, .bool t274, .int .u32 0]) ?_ 4 _ rfl; (with_reducible repeat (first | refine blk_drewN ?_ _ | refine blk_drew ?_ | refine blk_alloc ?_ _)); refine blk_put (cs := #[.int .i64 7, .string (⟨#[]⟩ : ByteArray), .int .i32 t271, .bool false, .int .u32 0]) ?_ 3 _ rfl; (with_reducible repeat (first | refine blk_drewN ?_ _ | refine blk_drew ?_ | refine blk_alloc ?_ _)); refine blk_put (cs := #[.int .i64 7, .string (⟨#[]⟩ : ByteArray), .int .i32 0, .bool false, .int .u32 0]) ?_ 2 _ rfl; (with_reducible repeat (first | refine blk_drewN ?_ _ | refine blk_drew ?_ | refine blk_alloc ?_ _)); refine blk_put (cs := #[.int .i64 7, .string (⟨#[]⟩ : ByteArray), .int .i32 0, .bool false, .int .u32 0]) ?_ 1 _ rfl; (with_reducible repeat (first | refine blk_drewN ?_ _ | refine blk_drew ?_ | refine blk_alloc ?_ _)); refine blk_put (cs := #[.int .i64 0, .string (⟨#[]⟩ : ByteArray), .int .i32 0, .bool false, .int .u32 0]) ?_ 0 _ rfl; (with_reducible repeat (first | refine blk_drewN ?_ _ | refine blk_drew ?_ | refine blk_alloc ?_ _)); exact BK267.out) Try.underlying51 rfl Z0) rfl ?_
  exact ⟨Z9, Z64, Z65, Z66⟩
 ·rw [if_neg c3] at H
  have c3b0 : (t268 == 0) = false := beq_eq_false_iff_ne.mpr c3
  have c3b1 : (t268 != 0) = true := bne_iff_ne.mpr c3
  by_cases c12 : t268 = 1
  ·rw [if_pos c12] at H
   have c12b0 : (t268 == 1) = true := beq_iff_eq.mpr c12
   have c12b1 : (t268 != 1) = false := bne_eq_false_iff_eq.mpr c12
   clear c12
   replace H := Option.bind_eq_some_iff.mp H
   obtain ⟨⟨t277, t278, t279⟩, A130, H⟩ := H
   replace H : ((spec_l01Once.f s0_0 t278 t279 3).bind fun bt280 => (some (8, (⟨#[]⟩ : ByteArray), t277, bt280.1, 0, bt280.2.1, bt280.2.2))) = some (r1, r2, r3, r4, r5, r6, r7) := H
   have A13 := Aside0.mk A130
   clear A130
   replace H := Option.bind_eq_some_iff.mp H
   obtain ⟨⟨t280, t281, t282⟩, A140, H⟩ := H
   replace H : (some (8, (⟨#[]⟩ : ByteArray), t277, t280, 0, t281, t282)) = some (r1, r2, r3, r4, r5, r6, r7) := H
   have A14 := Aside0.mk A140
   clear A140
   simp only [Option.some.injEq, Prod.mk.injEq] at H
   obtain ⟨rfl, rfl, rfl, rfl, rfl, rfl, rfl⟩ := H
   go_enter Try.func84, Try.ntmps84
   go_wp2_with (first | ((with_reducible refine gate_dst (N := 2) rfl ?_); refine box_event (by rfl) (N := 2) (by rfl) (cs := #[.int .i64 0, .string (⟨#[]⟩ : ByteArray), .int .i32 0, .bool false, .int .u32 0]) (t := 51) Z7 ?_; intro gb267 hg w15 hbox hb; replace HB := Z (below_step Z65 hb); have BK267 := Z (hbox); have GW267 := Z ((Z77 : w.heap.size ≤ gb267)); have GE267 := Z ((Nat.le_trans HW0.out (Z77 : w.heap.size ≤ gb267) : w0.heap.size ≤ gb267)); replace HK := Z (KeepBut.trans Z66 (KeepBut.of_below hb g none) (.inl rfl)); have NB0_267 := Z ((Z78 : g ≠ gb267)); have NB267_0 := Z ((Z79 : gb267 ≠ g)); replace HI0 := Z (IsS97.below Z64 hb); clear hb hbox hg) | ((with_reducible refine gate_callee (f := 73) rfl ?_); refine goesL_ (some 4) rfl rfl Try.func73 Z0 rfl #[.pointer (some ⟨g, 0, none⟩), .int .i64 8] rfl Z10 ?_; (with_reducible refine (spec_l01Below.calls g s0_0 s0_1 s0_2 8 t268 t269 t270 w0 _ ?side1 ?side2 A2.out).mono ?_); (case side1 => exact Z64); (case side2 => exact Z65); rintro e w16 ⟨rfl, hi, hb, hk⟩; refine ⟨_, rfl, ?_⟩; replace BK267 := Z (KeepBut.blk hk (g' := gb267) (o := .cells #[.int .i64 0, .string (⟨#[]⟩ : ByteArray), .int .i32 0, .bool false, .int .u32 0] 51 (0, 0)) (Z8 BK267) NB267_0.out (by simp)); replace HK := Z (KeepBut.trans Z66 hk (.inl rfl)); replace HB := Z (hb); replace HI0 := Z (hi); (try clear hb); (try clear hb2); (try clear hk); (try clear hi)) | ((with_reducible refine gate_callee (f := 111) rfl ?_); refine goesL_ (some 15) rfl rfl Try.func111 Z0 rfl #[.pointer (some ⟨g, 0, none⟩)] rfl Z10 ?_; (with_reducible refine (spec_l04Int.calls g s0_0 t269 t270 t277 t278 t279 w0 _ ?side1 ?side2 A13.out).mono ?_); (case side1 => exact Z64); (case side2 => exact Z65); rintro e w17 ⟨rfl, hi, hb, hk⟩; refine ⟨_, rfl, ?_⟩; replace BK267 := Z (KeepBut.blk hk (g' := gb267) (o := .cells #[.int .i64 0, .string (⟨#[]⟩ : ByteArray), .int .i32 0, .bool false, .int .u32 0] 51 (0, 0)) (Z8 BK267) NB267_0.out (by simp)); replace HK := Z (KeepBut.trans Z66 hk (.inl rfl)); replace HB := Z (hb); replace HI0 := Z (hi); (try clear hb); (try clear hb2); (try clear hk); (try clear hi)) | ((with_reducible refine gate_callee (f := 87) rfl ?_); refine goesL_ (some 17) rfl rfl Try.func87 Z0 rfl #[.pointer (some ⟨g, 0, none⟩), .int .i64 3] rfl Z10 ?_; (with_reducible refine (spec_l01Once.calls g s0_0 t278 t279 3 t280 t281 t282 w0 _ ?side1 ?side2 A14.out).mono ?_); (case side1 => exact Z64); (case side2 => exact Z65); rintro e w18 ⟨rfl, hi, hb, hk⟩; refine ⟨_, rfl, ?_⟩; replace BK267 := Z (KeepBut.blk hk (g' := gb267) (o := .cells #[.int .i64 0, .string (⟨#[]⟩ : ByteArray), .int .i32 0, .bool false, .int .u32 0] 51 (0, 0)) (Z8 BK267) NB267_0.out (by simp)); replace HK := Z (KeepBut.trans Z66 hk (.inl rfl)); replace HB := Z (hb); replace HI0 := Z (hi); (try clear hb); (try clear hb2); (try clear hk); (try clear hi); have hnb19 := NB267_0.out; have hnc19 := NB0_267.out; have hcz20_0 : w18.cell? ⟨gb267, 0, none⟩ = some (.int .i64 0) := (blk_cell BK267.out 0).trans rfl; have hcz20_1 : w18.cell? ⟨gb267, 1, none⟩ = some (.string (⟨#[]⟩ : ByteArray)) := (blk_cell BK267.out 1).trans rfl; have hcz20_2 : w18.cell? ⟨gb267, 2, none⟩ = some (.int .i32 0) := (blk_cell BK267.out 2).trans rfl; have hcz20_3 : w18.cell? ⟨gb267, 3, none⟩ = some (.bool false) := (blk_cell BK267.out 3).trans rfl; have hcz20_4 : w18.cell? ⟨gb267, 4, none⟩ = some (.int .u32 0) := (blk_cell BK267.out 4).trans rfl; have hfz20_0 := blk_frozen BK267.out 0; have hfz20_1 := blk_frozen BK267.out 1; have hfz20_2 := blk_frozen BK267.out 2; have hfz20_3 := blk_frozen BK267.out 3; have hfz20_4 := blk_frozen BK267.out 4))
   refine bodyPost_ret (results_cell_row rfl _ _ gb267 51 #[.int .i64 8, .string (⟨#[]⟩ : ByteArray), .int .i32 t277, .bool t280, .int .u32 0] (0, 0) _ rfl (by (with_reducible repeat (first | refine blk_drewN ?_ _ | refine blk_drew ?_ | refine blk_alloc ?_ _)); refine blk_put (cs := #[.int .i64 8, .string (⟨#[]⟩ : ByteArray), .int .i32 t277, .bool t280, .int .u32 0]) ?_ 4 _ rfl; (with_reducible repeat (first | refine blk_drewN ?_ _ | refine blk_drew ?_ | refine blk_alloc ?_ _)); refine blk_put (cs := #[.int .i64 8, .string (⟨#[]⟩ : ByteArray), .int .i32 t277, .bool false, .int .u32 0]) ?_ 3 _ rfl; (with_reducible repeat (first | refine blk_drewN ?_ _ | refine blk_drew ?_ | refine blk_alloc ?_ _)); refine blk_put (cs := #[.int .i64 8, .string (⟨#[]⟩ : ByteArray), .int .i32 0, .bool false, .int .u32 0]) ?_ 2 _ rfl; (with_reducible repeat (first | refine blk_drewN ?_ _ | refine blk_drew ?_ | refine blk_alloc ?_ _)); refine blk_put (cs := #[.int .i64 8, .string (⟨#[]⟩ : ByteArray), .int .i32 0, .bool false, .int .u32 0]) ?_ 1 _ rfl; (with_reducible repeat (first | refine blk_drewN ?_ _ | refine blk_drew ?_ | refine blk_alloc ?_ _)); refine blk_put (cs := #[.int .i64 0, .string (⟨#[]⟩ : ByteArray), .int .i32 0, .bool false, .int .u32 0]) ?_ 0 _ rfl; (with_reducible repeat (first | refine blk_drewN ?_ _ | refine blk_drew ?_ | refine blk_alloc ?_ _)); exact BK267.out) Try.underlying51 rfl Z0) rfl ?_
   exact ⟨Z9, Z64, Z65, Z66⟩
  ·rw [if_neg c12] at H
   have c12b0 : (t268 == 1) = false := beq_eq_false_iff_ne.mpr c12
   have c12b1 : (t268 != 1) = true := bne_iff_ne.mpr c12
   by_cases c21 : t268 = 2
   ·rw [if_pos c21] at H
    have c21b0 : (t268 == 2) = true := beq_iff_eq.mpr c21
    have c21b1 : (t268 != 2) = false := bne_eq_false_iff_eq.mpr c21
    clear c21
    obtain ⟨y283, hy283⟩ : ∃ y_ : List ByteArray, y_ = (([(⟨#[120]⟩ : ByteArray), (⟨#[97, 116]⟩ : ByteArray), (⟨#[113, 113, 113, 113]⟩ : ByteArray), (⟨#[116, 101, 110]⟩ : ByteArray)] : List ByteArray)) := ⟨_, rfl⟩
    replace H : ((spec_l01Pick.f s0_0 t269 t270 y283).bind fun bt286 => ((spec_l04Int.f s0_0 bt286.2.1 bt286.2.2).bind fun bt289 => (some (9, bt286.1, bt289.1, false, 0, bt289.2.1, bt289.2.2)))) = some (r1, r2, r3, r4, r5, r6, r7) := by first | (rw [hy283]; with_reducible exact H) | (have H2_ := (Option.bind_some _ _).symm.trans H; rw [hy283]; with_reducible exact H2_) | (have H2_ := (Option.bind_some _ _).symm.trans H; with_reducible exact H2_) | with_reducible exact H | (rw [hy283]; exact H) | exact H
    have Ny283 := Aside0.mk hy283
    clear hy283
    replace H := Option.bind_eq_some_iff.mp H
    obtain ⟨⟨t286, t287, t288⟩, A220, H⟩ := H
    replace H : ((spec_l04Int.f s0_0 t287 t288).bind fun bt289 => (some (9, t286, bt289.1, false, 0, bt289.2.1, bt289.2.2))) = some (r1, r2, r3, r4, r5, r6, r7) := H
    have A22 := Aside0.mk A220
    clear A220
    replace H := Option.bind_eq_some_iff.mp H
    obtain ⟨⟨t289, t290, t291⟩, A230, H⟩ := H
    replace H : (some (9, t286, t289, false, 0, t290, t291)) = some (r1, r2, r3, r4, r5, r6, r7) := H
    have A23 := Aside0.mk A230
    clear A230
    simp only [Option.some.injEq, Prod.mk.injEq] at H
    obtain ⟨rfl, rfl, rfl, rfl, rfl, rfl, rfl⟩ := H
    go_enter Try.func84, Try.ntmps84
    go_wp2_with (first | ((with_reducible refine gate_dst (N := 2) rfl ?_); refine box_event (by rfl) (N := 2) (by rfl) (cs := #[.int .i64 0, .string (⟨#[]⟩ : ByteArray), .int .i32 0, .bool false, .int .u32 0]) (t := 51) Z7 ?_; intro gb267 hg w24 hbox hb; replace HB := Z (below_step Z65 hb); have BK267 := Z (hbox); have GW267 := Z ((Z77 : w.heap.size ≤ gb267)); have GE267 := Z ((Nat.le_trans HW0.out (Z77 : w.heap.size ≤ gb267) : w0.heap.size ≤ gb267)); replace HK := Z (KeepBut.trans Z66 (KeepBut.of_below hb g none) (.inl rfl)); have NB0_267 := Z ((Z78 : g ≠ gb267)); have NB267_0 := Z ((Z79 : gb267 ≠ g)); replace HI0 := Z (IsS97.below Z64 hb); clear hb hbox hg) | ((with_reducible refine gate_callee (f := 73) rfl ?_); refine goesL_ (some 4) rfl rfl Try.func73 Z0 rfl #[.pointer (some ⟨g, 0, none⟩), .int .i64 8] rfl Z10 ?_; (with_reducible refine (spec_l01Below.calls g s0_0 s0_1 s0_2 8 t268 t269 t270 w0 _ ?side1 ?side2 A2.out).mono ?_); (case side1 => exact Z64); (case side2 => exact Z65); rintro e w25 ⟨rfl, hi, hb, hk⟩; refine ⟨_, rfl, ?_⟩; replace BK267 := Z (KeepBut.blk hk (g' := gb267) (o := .cells #[.int .i64 0, .string (⟨#[]⟩ : ByteArray), .int .i32 0, .bool false, .int .u32 0] 51 (0, 0)) (Z8 BK267) NB267_0.out (by simp)); replace HK := Z (KeepBut.trans Z66 hk (.inl rfl)); replace HB := Z (hb); replace HI0 := Z (hi); (try clear hb); (try clear hb2); (try clear hk); (try clear hi)) | ((with_reducible refine gate_dst (N := 22) rfl ?_); refine Kd.R_lit Kd.string _ 9 (by rfl) (N := 22) (by rfl) (xs := ([(⟨#[120]⟩ : ByteArray), (⟨#[97, 116]⟩ : ByteArray), (⟨#[113, 113, 113, 113]⟩ : ByteArray), (⟨#[116, 101, 110]⟩ : ByteArray)] : List ByteArray)) (inner := [.string (⟨#[120]⟩ : ByteArray), .string (⟨#[97, 116]⟩ : ByteArray), .string (⟨#[113, 113, 113, 113]⟩ : ByteArray), .string (⟨#[116, 101, 110]⟩ : ByteArray)]) (ok := fun _ => True) (okp := fun _ => True) Z7 (Reps.one (show Kd.M Kd.string _ _ _ (⟨#[120]⟩ : ByteArray) [.string (⟨#[120]⟩ : ByteArray)] from rfl) (Reps.one (show Kd.M Kd.string _ _ _ (⟨#[97, 116]⟩ : ByteArray) [.string (⟨#[97, 116]⟩ : ByteArray)] from rfl) (Reps.one (show Kd.M Kd.string _ _ _ (⟨#[113, 113, 113, 113]⟩ : ByteArray) [.string (⟨#[113, 113, 113, 113]⟩ : ByteArray)] from rfl) (Reps.one (show Kd.M Kd.string _ _ _ (⟨#[116, 101, 110]⟩ : ByteArray) [.string (⟨#[116, 101, 110]⟩ : ByteArray)] from rfl) (Reps.none _ _))))) (fun _ hk => hk) trivial (Below.refl _ _) (Nat.le_refl _) (by simp) ?_; intro v284 w26 ho27 hb hg_ hnew_; clear hg_ hnew_; (first | rw [← Ny283.out] at ho27 | (simp only [Int.reduceToNat] at ho27; rw [← Ny283.out] at ho27)); have HO285 := Z (Kd.R_lower ho27 (keep_size (w := w) (g := g) (row := none) Z66)); replace BK267 := Z (blk_below (g := gb267) (o := .cells #[.int .i64 0, .string (⟨#[]⟩ : ByteArray), .int .i32 0, .bool false, .int .u32 0] 51 (0, 0)) (Z8 BK267) hb); replace HK := Z (KeepBut.trans Z66 (KeepBut.of_below hb g none) (.inl rfl)); replace HB := Z (below_step Z65 hb); replace HI0 := Z (IsS97.below Z64 hb); clear hb ho27; obtain ⟨Ao28, co28, eo28⟩ := Kd.R_slice HO285.out; subst eo28) | ((with_reducible refine gate_callee (f := 105) rfl ?_); refine goesL_ (some 23) rfl rfl Try.func105 Z0 rfl #[.pointer (some ⟨g, 0, none⟩), .slice Ao28 y283.length co28] rfl Z10 ?_; (with_reducible refine (spec_l01Pick.calls g s0_0 t269 t270 _ _ y283 t286 t287 t288 w0 _ ?side1 ?side2 ?side3 ?side4 ?side5 A22.out).mono ?_); (case side1 => exact Z64); (case side2 => exact Z65); (case side3 => exact (Z17 HO285)); (case side4 => exact (Kd.R_reads' HO285.out).2.1); (case side5 => exact far_slice (IsS97.own_ne HI0.out HO285.out (by decide))); rintro e w29 ⟨rfl, hi, hb, hk⟩; refine ⟨_, rfl, ?_⟩; replace BK267 := Z (KeepBut.blk hk (g' := gb267) (o := .cells #[.int .i64 0, .string (⟨#[]⟩ : ByteArray), .int .i32 0, .bool false, .int .u32 0] 51 (0, 0)) (Z8 BK267) NB267_0.out (by simp)); replace HO285 := Z (Kd.R_mono (Kd.R_keep (IsS97.apart (show IsS97 w0 _ g s0_0 t269 t270 from Z64) (Z12 HO285) (by decide)) hk (fun _ h => h.2)) (fun _ h => h.1)); replace HK := Z (KeepBut.trans Z66 hk (.inl rfl)); replace HB := Z (hb); replace HI0 := Z (hi); (try clear hb); (try clear hb2); (try clear hk); (try clear hi)) | ((with_reducible refine gate_callee (f := 111) rfl ?_); refine goesL_ (some 25) rfl rfl Try.func111 Z0 rfl #[.pointer (some ⟨g, 0, none⟩)] rfl Z10 ?_; (with_reducible refine (spec_l04Int.calls g s0_0 t287 t288 t289 t290 t291 w0 _ ?side1 ?side2 A23.out).mono ?_); (case side1 => exact Z64); (case side2 => exact Z65); rintro e w30 ⟨rfl, hi, hb, hk⟩; refine ⟨_, rfl, ?_⟩; replace BK267 := Z (KeepBut.blk hk (g' := gb267) (o := .cells #[.int .i64 0, .string (⟨#[]⟩ : ByteArray), .int .i32 0, .bool false, .int .u32 0] 51 (0, 0)) (Z8 BK267) NB267_0.out (by simp)); replace HO285 := Z (Kd.R_mono (Kd.R_keep (IsS97.apart (show IsS97 w0 _ g s0_0 t287 t288 from Z64) (Z12 HO285) (by decide)) hk (fun _ h => h.2)) (fun _ h => h.1)); replace HK := Z (KeepBut.trans Z66 hk (.inl rfl)); replace HB := Z (hb); replace HI0 := Z (hi); (try clear hb); (try clear hb2); (try clear hk); (try clear hi); have hnb31 := NB267_0.out; have hnc31 := NB0_267.out; have hcz32_0 : w30.cell? ⟨gb267, 0, none⟩ = some (.int .i64 0) := (blk_cell BK267.out 0).trans rfl; have hcz32_1 : w30.cell? ⟨gb267, 1, none⟩ = some (.string (⟨#[]⟩ : ByteArray)) := (blk_cell BK267.out 1).trans rfl; have hcz32_2 : w30.cell? ⟨gb267, 2, none⟩ = some (.int .i32 0) := (blk_cell BK267.out 2).trans rfl; have hcz32_3 : w30.cell? ⟨gb267, 3, none⟩ = some (.bool false) := (blk_cell BK267.out 3).trans rfl; have hcz32_4 : w30.cell? ⟨gb267, 4, none⟩ = some (.int .u32 0) := (blk_cell BK267.out 4).trans rfl; have hfz32_0 := blk_frozen BK267.out 0; have hfz32_1 := blk_frozen BK267.out 1; have hfz32_2 := blk_frozen BK267.out 2; have hfz32_3 := blk_frozen BK267.out 3; have hfz32_4 := blk_frozen BK267.out 4))
    refine bodyPost_ret (results_cell_row rfl _ _ gb267 51 #[.int .i64 9, .string t286, .int .i32 t289, .bool false, .int .u32 0] (0, 0) _ rfl (by (with_reducible repeat (first | refine blk_drewN ?_ _ | refine blk_drew ?_ | refine blk_alloc ?_ _)); refine blk_put (cs := #[.int .i64 9, .string t286, .int .i32 t289, .bool false, .int .u32 0]) ?_ 4 _ rfl; (with_reducible repeat (first | refine blk_drewN ?_ _ | refine blk_drew ?_ | refine blk_alloc ?_ _)); refine blk_put (cs := #[.int .i64 9, .string t286, .int .i32 t289, .bool false, .int .u32 0]) ?_ 3 _ rfl; (with_reducible repeat (first | refine blk_drewN ?_ _ | refine blk_drew ?_ | refine blk_alloc ?_ _)); refine blk_put (cs := #[.int .i64 9, .string t286, .int .i32 0, .bool false, .int .u32 0]) ?_ 2 _ rfl; (with_reducible repeat (first | refine blk_drewN ?_ _ | refine blk_drew ?_ | refine blk_alloc ?_ _)); refine blk_put (cs := #[.int .i64 9, .string (⟨#[]⟩ : ByteArray), .int .i32 0, .bool false, .int .u32 0]) ?_ 1 _ rfl; (with_reducible repeat (first | refine blk_drewN ?_ _ | refine blk_drew ?_ | refine blk_alloc ?_ _)); refine blk_put (cs := #[.int .i64 0, .string (⟨#[]⟩ : ByteArray), .int .i32 0, .bool false, .int .u32 0]) ?_ 0 _ rfl; (with_reducible repeat (first | refine blk_drewN ?_ _ | refine blk_drew ?_ | refine blk_alloc ?_ _)); exact BK267.out) Try.underlying51 rfl Z0) rfl ?_
    exact ⟨Z9, Z64, Z65, Z66⟩
   ·rw [if_neg c21] at H
    have c21b0 : (t268 == 2) = false := beq_eq_false_iff_ne.mpr c21
    have c21b1 : (t268 != 2) = true := bne_iff_ne.mpr c21
    replace H := Option.bind_eq_some_iff.mp H
    obtain ⟨⟨t292, t293, t294⟩, A330, H⟩ := H
    replace H : ((spec_l02Name.f k s0_0 t293 t294).bind fun bt295 => (some (wrap64 (1 + t292), bt295.1, 0, false, 0, bt295.2.1, bt295.2.2))) = some (r1, r2, r3, r4, r5, r6, r7) := H
    have A33 := Aside0.mk A330
    clear A330
    replace H := Option.bind_eq_some_iff.mp H
    obtain ⟨⟨t295, t296, t297⟩, A340, H⟩ := H
    replace H : (some (wrap64 (1 + t292), t295, 0, false, 0, t296, t297)) = some (r1, r2, r3, r4, r5, r6, r7) := H
    have A34 := Aside0.mk A340
    clear A340
    simp only [Option.some.injEq, Prod.mk.injEq] at H
    obtain ⟨rfl, rfl, rfl, rfl, rfl, rfl, rfl⟩ := H
    go_enter Try.func84, Try.ntmps84
    go_wp2_with (first | ((with_reducible refine gate_dst (N := 2) rfl ?_); refine box_event (by rfl) (N := 2) (by rfl) (cs := #[.int .i64 0, .string (⟨#[]⟩ : ByteArray), .int .i32 0, .bool false, .int .u32 0]) (t := 51) Z7 ?_; intro gb267 hg w35 hbox hb; replace HB := Z (below_step Z65 hb); have BK267 := Z (hbox); have GW267 := Z ((Z77 : w.heap.size ≤ gb267)); have GE267 := Z ((Nat.le_trans HW0.out (Z77 : w.heap.size ≤ gb267) : w0.heap.size ≤ gb267)); replace HK := Z (KeepBut.trans Z66 (KeepBut.of_below hb g none) (.inl rfl)); have NB0_267 := Z ((Z78 : g ≠ gb267)); have NB267_0 := Z ((Z79 : gb267 ≠ g)); replace HI0 := Z (IsS97.below Z64 hb); clear hb hbox hg) | ((with_reducible refine gate_callee (f := 73) rfl ?_); refine goesL_ (some 4) rfl rfl Try.func73 Z0 rfl #[.pointer (some ⟨g, 0, none⟩), .int .i64 8] rfl Z10 ?_; (with_reducible refine (spec_l01Below.calls g s0_0 s0_1 s0_2 8 t268 t269 t270 w0 _ ?side1 ?side2 A2.out).mono ?_); (case side1 => exact Z64); (case side2 => exact Z65); rintro e w36 ⟨rfl, hi, hb, hk⟩; refine ⟨_, rfl, ?_⟩; replace BK267 := Z (KeepBut.blk hk (g' := gb267) (o := .cells #[.int .i64 0, .string (⟨#[]⟩ : ByteArray), .int .i32 0, .bool false, .int .u32 0] 51 (0, 0)) (Z8 BK267) NB267_0.out (by simp)); replace HK := Z (KeepBut.trans Z66 hk (.inl rfl)); replace HB := Z (hb); replace HI0 := Z (hi); (try clear hb); (try clear hb2); (try clear hk); (try clear hi)) | ((with_reducible refine gate_callee (f := 73) rfl ?_); refine goesL_ (some 28) rfl rfl Try.func73 Z0 rfl #[.pointer (some ⟨g, 0, none⟩), .int .i64 6] rfl Z10 ?_; (with_reducible refine (spec_l01Below.calls g s0_0 t269 t270 6 t292 t293 t294 w0 _ ?side1 ?side2 A33.out).mono ?_); (case side1 => exact Z64); (case side2 => exact Z65); rintro e w37 ⟨rfl, hi, hb, hk⟩; refine ⟨_, rfl, ?_⟩; replace BK267 := Z (KeepBut.blk hk (g' := gb267) (o := .cells #[.int .i64 0, .string (⟨#[]⟩ : ByteArray), .int .i32 0, .bool false, .int .u32 0] 51 (0, 0)) (Z8 BK267) NB267_0.out (by simp)); replace HK := Z (KeepBut.trans Z66 hk (.inl rfl)); replace HB := Z (hb); replace HI0 := Z (hi); (try clear hb); (try clear hb2); (try clear hk); (try clear hi)) | ((with_reducible refine gate_callee (f := 112) rfl ?_); refine goesL_ (some 31) rfl rfl Try.func112 Z0 rfl #[.pointer (some ⟨g, 0, none⟩)] rfl Z10 ?_; (with_reducible refine (spec_l02Name.calls k g s0_0 t293 t294 t295 t296 t297 w0 _ ?side1 ?side2 A34.out).mono ?_); (case side1 => exact Z64); (case side2 => exact Z65); rintro e w38 ⟨rfl, hi, hb, hk⟩; refine ⟨_, rfl, ?_⟩; replace BK267 := Z (KeepBut.blk hk (g' := gb267) (o := .cells #[.int .i64 0, .string (⟨#[]⟩ : ByteArray), .int .i32 0, .bool false, .int .u32 0] 51 (0, 0)) (Z8 BK267) NB267_0.out (by simp)); replace HK := Z (KeepBut.trans Z66 hk (.inl rfl)); replace HB := Z (hb); replace HI0 := Z (hi); (try clear hb); (try clear hb2); (try clear hk); (try clear hi); have hnb39 := NB267_0.out; have hnc39 := NB0_267.out; have hcz40_0 : w38.cell? ⟨gb267, 0, none⟩ = some (.int .i64 0) := (blk_cell BK267.out 0).trans rfl; have hcz40_1 : w38.cell? ⟨gb267, 1, none⟩ = some (.string (⟨#[]⟩ : ByteArray)) := (blk_cell BK267.out 1).trans rfl; have hcz40_2 : w38.cell? ⟨gb267, 2, none⟩ = some (.int .i32 0) := (blk_cell BK267.out 2).trans rfl; have hcz40_3 : w38.cell? ⟨gb267, 3, none⟩ = some (.bool false) := (blk_cell BK267.out 3).trans rfl; have hcz40_4 : w38.cell? ⟨gb267, 4, none⟩ = some (.int .u32 0) := (blk_cell BK267.out 4).trans rfl; have hfz40_0 := blk_frozen BK267.out 0; have hfz40_1 := blk_frozen BK267.out 1; have hfz40_2 := blk_frozen BK267.out 2; have hfz40_3 := blk_frozen BK267.out 3; have hfz40_4 := blk_frozen BK267.out 4))
    refine bodyPost_ret (results_cell_row rfl _ _ gb267 51 #[.int .i64 (wrap64 (1 + t292)), .string t295, .int .i32 0, .bool false, .int .u32 0] (0, 0) _ rfl (by (with_reducible repeat (first | refine blk_drewN ?_ _ | refine blk_drew ?_ | refine blk_alloc ?_ _)); refine blk_put (cs := #[.int .i64 (wrap64 (1 + t292)), .string t295, .int .i32 0, .bool false, .int .u32 0]) ?_ 4 _ rfl; (with_reducible repeat (first | refine blk_drewN ?_ _ | refine blk_drew ?_ | refine blk_alloc ?_ _)); refine blk_put (cs := #[.int .i64 (wrap64 (1 + t292)), .string t295, .int .i32 0, .bool false, .int .u32 0]) ?_ 3 _ rfl; (with_reducible repeat (first | refine blk_drewN ?_ _ | refine blk_drew ?_ | refine blk_alloc ?_ _)); refine blk_put (cs := #[.int .i64 (wrap64 (1 + t292)), .string t295, .int .i32 0, .bool false, .int .u32 0]) ?_ 2 _ rfl; (with_reducible repeat (first | refine blk_drewN ?_ _ | refine blk_drew ?_ | refine blk_alloc ?_ _)); refine blk_put (cs := #[.int .i64 (wrap64 (1 + t292)), .string (⟨#[]⟩ : ByteArray), .int .i32 0, .bool false, .int .u32 0]) ?_ 1 _ rfl; (with_reducible repeat (first | refine blk_drewN ?_ _ | refine blk_drew ?_ | refine blk_alloc ?_ _)); refine blk_put (cs := #[.int .i64 0, .string (⟨#[]⟩ : ByteArray), .int .i32 0, .bool false, .int .u32 0]) ?_ 0 _ rfl; (with_reducible repeat (first | refine blk_drewN ?_ _ | refine blk_drew ?_ | refine blk_alloc ?_ _)); exact BK267.out) Try.underlying51 rfl Z0) rfl ?_
    exact ⟨Z9, Z64, Z65, Z66⟩

/-! ### spec_l01Word: function 85 -/
def spec_l01Word.f (s0_0 : List Int) (s0_1 : Int) (s0_2 : Int) : Option (Int × Int × Int) := (spec_l01Below.f s0_0 s0_1 s0_2 4).bind fun bt298 => (if bt298.1 = 0 then ((spec_l01PickInt.f s0_0 bt298.2.1 bt298.2.2 (([0, 1, 2, 31, 32, 255, 256, 2147483647, 2147483648, 4294967295, 4294967294] : List Int))).bind fun bt304 => (some ((bt304.1) % 4294967296, bt304.2.1, bt304.2.2))) else (if bt298.1 = 1 then ((spec_l01Below.f s0_0 bt298.2.1 bt298.2.2 300).bind fun bt307 => (some ((bt307.1) % 4294967296, bt307.2.1, bt307.2.2))) else ((spec_l01Below.f s0_0 bt298.2.1 bt298.2.2 65536).bind fun bt310 => ((spec_l01Below.f s0_0 bt310.2.1 bt310.2.2 65536).bind fun bt313 => (some ((((((bt310.1) % 4294967296) * 65536) % 4294967296) + ((bt313.1) % 4294967296)) % 4294967296, bt313.2.1, bt313.2.2))))))
set_option maxHeartbeats 8000000 in
set_option maxRecDepth 100000 in
theorem spec_l01Word.calls (g : Nat) (s0_0 : List Int) (s0_1 : Int) (s0_2 : Int) (r1 : Int) (r2 : Int) (r3 : Int) (w0 w : World) (hI : IsS97 w0 w g s0_0 s0_1 s0_2) (hB : Below w0.heap.size w0 w) (h : spec_l01Word.f s0_0 s0_1 s0_2 = some (r1, r2, r3)) :
  Calls Try.prog 85 #[.pointer (some ⟨g, 0, none⟩)] w fun e w' => e = .returned (.int .u32 r1) ∧ IsS97 w0 w' g s0_0 r2 r3 ∧ Below w0.heap.size w0 w' ∧ KeepBut w w' g none := by
 have HI0 := Aside0.mk hI
 have HK := Z (KeepBut.refl w g none)
 have HL := Aside0.mk hB.size
 clear hI
 have HW0 := Aside0.mk hB.size
 have HB := Aside0.mk hB
 clear hB
 have H : ((spec_l01Below.f s0_0 s0_1 s0_2 4).bind fun bt298 => (if bt298.1 = 0 then ((spec_l01PickInt.f s0_0 bt298.2.1 bt298.2.2 (([0, 1, 2, 31, 32, 255, 256, 2147483647, 2147483648, 4294967295, 4294967294] : List Int))).bind fun bt304 => (some ((bt304.1) % 4294967296, bt304.2.1, bt304.2.2))) else (if bt298.1 = 1 then ((spec_l01Below.f s0_0 bt298.2.1 bt298.2.2 300).bind fun bt307 => (some ((bt307.1) % 4294967296, bt307.2.1, bt307.2.2))) else ((spec_l01Below.f s0_0 bt298.2.1 bt298.2.2 65536).bind fun bt310 => ((spec_l01Below.f s0_0 bt310.2.1 bt310.2.2 65536).bind fun bt313 => (some ((((((bt310.1) % 4294967296) * 65536) % 4294967296) + ((bt313.1) % 4294967296)) % 4294967296, bt313.2.1, bt313.2.2))))))) = some (r1, r2, r3) := h
 clear h
 replace H := Option.bind_eq_some_iff.mp H
 obtain ⟨⟨t298, t299, t300⟩, A20, H⟩ := H
 replace H : (if t298 = 0 then ((spec_l01PickInt.f s0_0 t299 t300 (([0, 1, 2, 31, 32, 255, 256, 2147483647, 2147483648, 4294967295, 4294967294] : List Int))).bind fun bt304 => (some ((bt304.1) % 4294967296, bt304.2.1, bt304.2.2))) else (if t298 = 1 then ((spec_l01Below.f s0_0 t299 t300 300).bind fun bt307 => (some ((bt307.1) % 4294967296, bt307.2.1, bt307.2.2))) else ((spec_l01Below.f s0_0 t299 t300 65536).bind fun bt310 => ((spec_l01Below.f s0_0 bt310.2.1 bt310.2.2 65536).bind fun bt313 => (some ((((((bt310.1) % 4294967296) * 65536) % 4294967296) + ((bt313.1) % 4294967296)) % 4294967296, bt313.2.1, bt313.2.2)))))) = some (r1, r2, r3) := H
 have A2 := Aside0.mk A20
 clear A20
 by_cases c3 : t298 = 0
 ·rw [if_pos c3] at H
  have c3b0 : (t298 == 0) = true := beq_iff_eq.mpr c3
  have c3b1 : (t298 != 0) = false := bne_eq_false_iff_eq.mpr c3
  clear c3
  obtain ⟨y301, hy301⟩ : ∃ y_ : List Int, y_ = (([0, 1, 2, 31, 32, 255, 256, 2147483647, 2147483648, 4294967295, 4294967294] : List Int)) := ⟨_, rfl⟩
  replace H : ((spec_l01PickInt.f s0_0 t299 t300 y301).bind fun bt304 => (some ((bt304.1) % 4294967296, bt304.2.1, bt304.2.2))) = some (r1, r2, r3) := by first | (rw [hy301]; with_reducible exact H) | (have H2_ := (Option.bind_some _ _).symm.trans H; rw [hy301]; with_reducible exact H2_) | (have H2_ := (Option.bind_some _ _).symm.trans H; with_reducible exact H2_) | with_reducible exact H | (rw [hy301]; exact H) | exact H
  have Ny301 := Aside0.mk hy301
  clear hy301
  replace H := Option.bind_eq_some_iff.mp H
  obtain ⟨⟨t304, t305, t306⟩, A40, H⟩ := H
  replace H : (some ((t304) % 4294967296, t305, t306)) = some (r1, r2, r3) := H
  have A4 := Aside0.mk A40
  clear A40
  simp only [Option.some.injEq, Prod.mk.injEq] at H
  obtain ⟨rfl, rfl, rfl⟩ := H
  go_enter Try.func85, Try.ntmps85
  go_wp2_with (first | ((with_reducible refine gate_callee (f := 73) rfl ?_); refine goesL_ (some 4) rfl rfl Try.func73 Z0 rfl #[.pointer (some ⟨g, 0, none⟩), .int .i64 4] rfl Z10 ?_; (with_reducible refine (spec_l01Below.calls g s0_0 s0_1 s0_2 4 t298 t299 t300 w0 _ ?side1 ?side2 A2.out).mono ?_); (case side1 => exact Z64); (case side2 => exact Z65); rintro e w5 ⟨rfl, hi, hb, hk⟩; refine ⟨_, rfl, ?_⟩; replace HK := Z (KeepBut.trans Z66 hk (.inl rfl)); replace HB := Z (hb); replace HI0 := Z (hi); (try clear hb); (try clear hb2); (try clear hk); (try clear hi)) | ((with_reducible refine gate_dst (N := 8) rfl ?_); refine Kd.R_lit (Kd.int .i64) _ 3 (by rfl) (N := 8) (by rfl) (xs := ([0, 1, 2, 31, 32, 255, 256, 2147483647, 2147483648, 4294967295, 4294967294] : List Int)) (inner := [.int .i64 0, .int .i64 1, .int .i64 2, .int .i64 31, .int .i64 32, .int .i64 255, .int .i64 256, .int .i64 2147483647, .int .i64 2147483648, .int .i64 4294967295, .int .i64 4294967294]) (ok := fun _ => True) (okp := fun _ => True) Z7 (Reps.one (show Kd.M (Kd.int .i64) _ _ _ 0 [.int .i64 0] from rfl) (Reps.one (show Kd.M (Kd.int .i64) _ _ _ 1 [.int .i64 1] from rfl) (Reps.one (show Kd.M (Kd.int .i64) _ _ _ 2 [.int .i64 2] from rfl) (Reps.one (show Kd.M (Kd.int .i64) _ _ _ 31 [.int .i64 31] from rfl) (Reps.one (show Kd.M (Kd.int .i64) _ _ _ 32 [.int .i64 32] from rfl) (Reps.one (show Kd.M (Kd.int .i64) _ _ _ 255 [.int .i64 255] from rfl) (Reps.one (show Kd.M (Kd.int .i64) _ _ _ 256 [.int .i64 256] from rfl) (Reps.one (show Kd.M (Kd.int .i64) _ _ _ 2147483647 [.int .i64 2147483647] from rfl) (Reps.one (show Kd.M (Kd.int .i64) _ _ _ 2147483648 [.int .i64 2147483648] from rfl) (Reps.one (show Kd.M (Kd.int .i64) _ _ _ 4294967295 [.int .i64 4294967295] from rfl) (Reps.one (show Kd.M (Kd.int .i64) _ _ _ 4294967294 [.int .i64 4294967294] from rfl) (Reps.none _ _)))))))))))) (fun _ hk => hk) trivial (Below.refl _ _) (Nat.le_refl _) (by simp) ?_; intro v302 w6 ho7 hb hg_ hnew_; clear hg_ hnew_; (first | rw [← Ny301.out] at ho7 | (simp only [Int.reduceToNat] at ho7; rw [← Ny301.out] at ho7)); have HO303 := Z (Kd.R_lower ho7 (keep_size (w := w) (g := g) (row := none) Z66)); replace HK := Z (KeepBut.trans Z66 (KeepBut.of_below hb g none) (.inl rfl)); replace HB := Z (below_step Z65 hb); replace HI0 := Z (IsS97.below Z64 hb); clear hb ho7; obtain ⟨Ao8, co8, eo8⟩ := Kd.R_slice HO303.out; subst eo8) | ((with_reducible refine gate_callee (f := 86) rfl ?_); refine goesL_ (some 9) rfl rfl Try.func86 Z0 rfl #[.pointer (some ⟨g, 0, none⟩), .slice Ao8 y301.length co8] rfl Z10 ?_; (with_reducible refine (spec_l01PickInt.calls g s0_0 t299 t300 _ _ y301 t304 t305 t306 w0 _ ?side1 ?side2 ?side3 ?side4 ?side5 A4.out).mono ?_); (case side1 => exact Z64); (case side2 => exact Z65); (case side3 => exact (Z17 HO303)); (case side4 => exact (Kd.R_reads' HO303.out).2.1); (case side5 => exact far_slice (IsS97.own_ne HI0.out HO303.out (by decide))); rintro e w9 ⟨rfl, hi, hb, hk⟩; refine ⟨_, rfl, ?_⟩; replace HO303 := Z (Kd.R_mono (Kd.R_keep (IsS97.apart (show IsS97 w0 _ g s0_0 t299 t300 from Z64) (Z12 HO303) (by decide)) hk (fun _ h => h.2)) (fun _ h => h.1)); replace HK := Z (KeepBut.trans Z66 hk (.inl rfl)); replace HB := Z (hb); replace HI0 := Z (hi); (try clear hb); (try clear hb2); (try clear hk); (try clear hi)))
  go_ret
  exact ⟨Z9, Z64, Z65, Z66⟩
 ·rw [if_neg c3] at H
  have c3b0 : (t298 == 0) = false := beq_eq_false_iff_ne.mpr c3
  have c3b1 : (t298 != 0) = true := bne_iff_ne.mpr c3
  by_cases c10 : t298 = 1
  ·rw [if_pos c10] at H
   have c10b0 : (t298 == 1) = true := beq_iff_eq.mpr c10
   have c10b1 : (t298 != 1) = false := bne_eq_false_iff_eq.mpr c10
   clear c10
   replace H := Option.bind_eq_some_iff.mp H
   obtain ⟨⟨t307, t308, t309⟩, A110, H⟩ := H
   replace H : (some ((t307) % 4294967296, t308, t309)) = some (r1, r2, r3) := H
   have A11 := Aside0.mk A110
   clear A110
   simp only [Option.some.injEq, Prod.mk.injEq] at H
   obtain ⟨rfl, rfl, rfl⟩ := H
   go_enter Try.func85, Try.ntmps85
   go_wp2_with (first | ((with_reducible refine gate_callee (f := 73) rfl ?_); refine goesL_ (some 4) rfl rfl Try.func73 Z0 rfl #[.pointer (some ⟨g, 0, none⟩), .int .i64 4] rfl Z10 ?_; (with_reducible refine (spec_l01Below.calls g s0_0 s0_1 s0_2 4 t298 t299 t300 w0 _ ?side1 ?side2 A2.out).mono ?_); (case side1 => exact Z64); (case side2 => exact Z65); rintro e w12 ⟨rfl, hi, hb, hk⟩; refine ⟨_, rfl, ?_⟩; replace HK := Z (KeepBut.trans Z66 hk (.inl rfl)); replace HB := Z (hb); replace HI0 := Z (hi); (try clear hb); (try clear hb2); (try clear hk); (try clear hi)) | ((with_reducible refine gate_callee (f := 73) rfl ?_); refine goesL_ (some 14) rfl rfl Try.func73 Z0 rfl #[.pointer (some ⟨g, 0, none⟩), .int .i64 300] rfl Z10 ?_; (with_reducible refine (spec_l01Below.calls g s0_0 t299 t300 300 t307 t308 t309 w0 _ ?side1 ?side2 A11.out).mono ?_); (case side1 => exact Z64); (case side2 => exact Z65); rintro e w13 ⟨rfl, hi, hb, hk⟩; refine ⟨_, rfl, ?_⟩; replace HK := Z (KeepBut.trans Z66 hk (.inl rfl)); replace HB := Z (hb); replace HI0 := Z (hi); (try clear hb); (try clear hb2); (try clear hk); (try clear hi)))
   go_ret
   exact ⟨Z9, Z64, Z65, Z66⟩
  ·rw [if_neg c10] at H
   have c10b0 : (t298 == 1) = false := beq_eq_false_iff_ne.mpr c10
   have c10b1 : (t298 != 1) = true := bne_iff_ne.mpr c10
   replace H := Option.bind_eq_some_iff.mp H
   obtain ⟨⟨t310, t311, t312⟩, A140, H⟩ := H
   replace H : ((spec_l01Below.f s0_0 t311 t312 65536).bind fun bt313 => (some ((((((t310) % 4294967296) * 65536) % 4294967296) + ((bt313.1) % 4294967296)) % 4294967296, bt313.2.1, bt313.2.2))) = some (r1, r2, r3) := H
   have A14 := Aside0.mk A140
   clear A140
   replace H := Option.bind_eq_some_iff.mp H
   obtain ⟨⟨t313, t314, t315⟩, A150, H⟩ := H
   replace H : (some ((((((t310) % 4294967296) * 65536) % 4294967296) + ((t313) % 4294967296)) % 4294967296, t314, t315)) = some (r1, r2, r3) := H
   have A15 := Aside0.mk A150
   clear A150
   simp only [Option.some.injEq, Prod.mk.injEq] at H
   obtain ⟨rfl, rfl, rfl⟩ := H
   go_enter Try.func85, Try.ntmps85
   go_wp2_with (first | ((with_reducible refine gate_callee (f := 73) rfl ?_); refine goesL_ (some 4) rfl rfl Try.func73 Z0 rfl #[.pointer (some ⟨g, 0, none⟩), .int .i64 4] rfl Z10 ?_; (with_reducible refine (spec_l01Below.calls g s0_0 s0_1 s0_2 4 t298 t299 t300 w0 _ ?side1 ?side2 A2.out).mono ?_); (case side1 => exact Z64); (case side2 => exact Z65); rintro e w16 ⟨rfl, hi, hb, hk⟩; refine ⟨_, rfl, ?_⟩; replace HK := Z (KeepBut.trans Z66 hk (.inl rfl)); replace HB := Z (hb); replace HI0 := Z (hi); (try clear hb); (try clear hb2); (try clear hk); (try clear hi)) | ((with_reducible refine gate_callee (f := 73) rfl ?_); refine goesL_ (some 17) rfl rfl Try.func73 Z0 rfl #[.pointer (some ⟨g, 0, none⟩), .int .i64 65536] rfl Z10 ?_; (with_reducible refine (spec_l01Below.calls g s0_0 t299 t300 65536 t310 t311 t312 w0 _ ?side1 ?side2 A14.out).mono ?_); (case side1 => exact Z64); (case side2 => exact Z65); rintro e w17 ⟨rfl, hi, hb, hk⟩; refine ⟨_, rfl, ?_⟩; replace HK := Z (KeepBut.trans Z66 hk (.inl rfl)); replace HB := Z (hb); replace HI0 := Z (hi); (try clear hb); (try clear hb2); (try clear hk); (try clear hi)) | ((with_reducible refine gate_callee (f := 73) rfl ?_); refine goesL_ (some 21) rfl rfl Try.func73 Z0 rfl #[.pointer (some ⟨g, 0, none⟩), .int .i64 65536] rfl Z10 ?_; (with_reducible refine (spec_l01Below.calls g s0_0 t311 t312 65536 t313 t314 t315 w0 _ ?side1 ?side2 A15.out).mono ?_); (case side1 => exact Z64); (case side2 => exact Z65); rintro e w18 ⟨rfl, hi, hb, hk⟩; refine ⟨_, rfl, ?_⟩; replace HK := Z (KeepBut.trans Z66 hk (.inl rfl)); replace HB := Z (hb); replace HI0 := Z (hi); (try clear hb); (try clear hb2); (try clear hk); (try clear hi)))
   go_ret
   exact ⟨Z9, Z64, Z65, Z66⟩

/-! ### spec_l04Cells: function 58 -/
def spec_l04Cells.l0 : Nat → List Int → Int → Int → List Int → Int → Int → Option (List Int × Int × Int)
 | 0, _, _, _, _, _, _ => none
 | k + 1, x3, x4, x5, x1000, x1001, x1002 => if x5 < x4 then ((spec_l04Some.f k x1000 x1001 x1002).bind fun bt328 => ((spec_CellsOf.f k bt328.1 bt328.2.1 bt328.2.2.1 bt328.2.2.2.1 bt328.2.2.2.2.1).bind fun t335 => (if x3.length + t335.length < 35184372088832 then ((some (x3 ++ t335 : List Int)).bind fun y338 => ((spec_l01Below.f x1000 bt328.2.2.2.2.2.1 bt328.2.2.2.2.2.2 9).bind fun bt341 => (if bt341.1 = 0 then ((spec_l01Word.f x1000 bt341.2.1 bt341.2.2).bind fun bt344 => (if y338.length < 35184372088832 then (spec_l04Cells.l0 k (y338 ++ [bt344.1]) x4 (wrap64 (x5 + 1)) x1000 bt344.2.1 bt344.2.2) else (none))) else (if bt341.1 = 1 then (if y338.length < 35184372088832 then (spec_l04Cells.l0 k (y338 ++ [0]) x4 (wrap64 (x5 + 1)) x1000 bt341.2.1 bt341.2.2) else (none)) else (if bt341.1 = 2 then ((spec_l01Below.f x1000 bt341.2.1 bt341.2.2 4096).bind fun bt353 => (if y338.length < 35184372088832 then (spec_l04Cells.l0 k (y338 ++ [(((bt353.1) % 4294967296) * 16) % 4294967296]) x4 (wrap64 (x5 + 1)) x1000 bt353.2.1 bt353.2.2) else (none))) else (if bt341.1 = 3 then ((spec_l01PickInt.f x1000 bt341.2.1 bt341.2.2 (([2, 18, 5, 34, 12] : List Int))).bind fun bt362 => (if y338.length < 35184372088832 then (spec_l04Cells.l0 k (y338 ++ [(bt362.1) % 4294967296]) x4 (wrap64 (x5 + 1)) x1000 bt362.2.1 bt362.2.2) else (none))) else (spec_l04Cells.l0 k y338 x4 (wrap64 (x5 + 1)) x1000 bt341.2.1 bt341.2.2))))))) else (none)))) else (if (x3.length : Int) > 64 then ((spec_l01Once.f x1000 x1001 x1002 6).bind fun bt322 => (if bt322.1 = true then (some (x3, bt322.2.1, bt322.2.2)) else (if 64 ≤ (x3.length : Int) then (some ((x3.take (64 : Int).toNat), bt322.2.1, bt322.2.2)) else (none)))) else (some (x3, x1001, x1002)))
def spec_l04Cells.f (k : Nat) (s0_0 : List Int) (s0_1 : Int) (s0_2 : Int) : Option (List Int × Int × Int) := (spec_l01Below.f s0_0 s0_1 s0_2 14).bind fun bt319 => (spec_l04Cells.l0 k (([] : List Int)) bt319.1 0 s0_0 bt319.2.1 bt319.2.2)
theorem spec_l04Cells.mono_l : ∀ k, (∀ y0 y1 y2 y3 y4 y5, LeO (spec_l04Cells.l0 k y0 y1 y2 y3 y4 y5) (spec_l04Cells.l0 (k + 1) y0 y1 y2 y3 y4 y5))
 | 0 => fun _ _ _ _ _ _ r h => by simp [spec_l04Cells.l0] at h
 | k + 1 => by
  have ih0 := spec_l04Cells.mono_l k
  ·intro y0 y1 y2 y3 y4 y5
   unfold spec_l04Cells.l0
   repeat' first
   | (with_reducible exact ih0 _ _ _ _ _ _)
   | (with_reducible exact spec_CellsOf.mono _ _ _ _ _ _)
   | (with_reducible exact spec_l04Some.mono _ _ _ _)
   | (with_reducible exact LeO.refl _)
   | (with_reducible exact LeO.none _)
   | (with_reducible refine LeO.ite ?_ ?_)
   | (with_reducible refine LeO.bind ?_ (fun _ => ?_))
   | exact ih0 _ _ _ _ _ _
   | exact spec_CellsOf.mono _ _ _ _ _ _
   | exact spec_l04Some.mono _ _ _ _
   | exact LeO.none _
   | refine LeO.ite ?_ ?_
   | refine LeO.bind ?_ (fun _ => ?_)
theorem spec_l04Cells.mono : ∀ a0 a1 a2 k, LeO (spec_l04Cells.f k a0 a1 a2) (spec_l04Cells.f (k + 1) a0 a1 a2) := by
 intro a0 a1 a2 k
 have ih0 := spec_l04Cells.mono_l k
 unfold spec_l04Cells.f
 repeat' first
   | (with_reducible exact ih0 _ _ _ _ _ _)
   | (with_reducible exact spec_CellsOf.mono _ _ _ _ _ _)
   | (with_reducible exact spec_l04Some.mono _ _ _ _)
   | (with_reducible exact LeO.refl _)
   | (with_reducible exact LeO.none _)
   | (with_reducible refine LeO.ite ?_ ?_)
   | (with_reducible refine LeO.bind ?_ (fun _ => ?_))
   | exact ih0 _ _ _ _ _ _
   | exact spec_CellsOf.mono _ _ _ _ _ _
   | exact spec_l04Some.mono _ _ _ _
   | exact LeO.none _
   | refine LeO.ite ?_ ?_
   | refine LeO.bind ?_ (fun _ => ?_)
set_option maxHeartbeats 8000000 in
set_option maxRecDepth 100000 in
theorem spec_l04Cells.calls (k : Nat) (g : Nat) (s0_0 : List Int) (s0_1 : Int) (s0_2 : Int) (r1 : List Int) (r2 : Int) (r3 : Int) (w0 w : World) (hI : IsS97 w0 w g s0_0 s0_1 s0_2) (hB : Below w0.heap.size w0 w) (h : spec_l04Cells.f k s0_0 s0_1 s0_2 = some (r1, r2, r3)) :
  Calls Try.prog 58 #[.pointer (some ⟨g, 0, none⟩)] w fun e w' => ∃ v0_ : Value, e = .returned (v0_) ∧ Kd.R (Kd.int .u32) 47 w' w.heap.size (fun _ => True) v0_ r1 ∧ IsS97 w0 w' g s0_0 r2 r3 ∧ Below w0.heap.size w0 w' ∧ KeepBut w w' g none := by
 have HI0 := Aside0.mk hI
 have HK := Z (KeepBut.refl w g none)
 have HL := Aside0.mk hB.size
 clear hI
 have HW0 := Aside0.mk hB.size
 have HB := Aside0.mk hB
 clear hB
 have H : ((spec_l01Below.f s0_0 s0_1 s0_2 14).bind fun bt319 => (spec_l04Cells.l0 k (([] : List Int)) bt319.1 0 s0_0 bt319.2.1 bt319.2.2)) = some (r1, r2, r3) := h
 clear h
 obtain ⟨y316, hy316⟩ : ∃ y_ : List Int, y_ = (([] : List Int)) := ⟨_, rfl⟩
 replace H : ((spec_l01Below.f s0_0 s0_1 s0_2 14).bind fun bt319 => (spec_l04Cells.l0 k y316 bt319.1 0 s0_0 bt319.2.1 bt319.2.2)) = some (r1, r2, r3) := by first | (rw [hy316]; with_reducible exact H) | (have H2_ := (Option.bind_some _ _).symm.trans H; rw [hy316]; with_reducible exact H2_) | (have H2_ := (Option.bind_some _ _).symm.trans H; with_reducible exact H2_) | with_reducible exact H | (rw [hy316]; exact H) | exact H
 have Ny316 := Aside0.mk hy316
 clear hy316
 replace H := Option.bind_eq_some_iff.mp H
 obtain ⟨⟨t319, t320, t321⟩, A20, H⟩ := H
 replace H : (spec_l04Cells.l0 k y316 t319 0 s0_0 t320 t321) = some (r1, r2, r3) := H
 have A2 := Aside0.mk A20
 clear A20
 have H' := Aside0.mk H
 clear H
 go_enter Try.func58, Try.ntmps58
 go_wp2_with (first | ((with_reducible refine gate_dst (N := 6) rfl ?_); refine Kd.R_lit (Kd.int .u32) _ 47 (by rfl) (N := 6) (by rfl) (xs := ([] : List Int)) (inner := []) (ok := fun _ => True) (okp := fun _ => True) Z7 (Reps.none _ _) (fun _ hk => hk) trivial (Below.refl _ _) (Nat.le_refl _) (by simp) ?_; intro v317 w3 ho4 hb hg_ hnew_; clear hg_ hnew_; (first | rw [← Ny316.out] at ho4 | (simp only [Int.reduceToNat] at ho4; rw [← Ny316.out] at ho4)); have HO318 := Z (Kd.R_lower ho4 (keep_size (w := w) (g := g) (row := none) Z66)); replace HK := Z (KeepBut.trans Z66 (KeepBut.of_below hb g none) (.inl rfl)); replace HB := Z (below_step Z65 hb); replace HI0 := Z (IsS97.below Z64 hb); clear hb ho4) | ((with_reducible refine gate_callee (f := 73) rfl ?_); refine goesL_ (some 8) rfl rfl Try.func73 Z0 rfl #[.pointer (some ⟨g, 0, none⟩), .int .i64 14] rfl Z10 ?_; (with_reducible refine (spec_l01Below.calls g s0_0 s0_1 s0_2 14 t319 t320 t321 w0 _ ?side1 ?side2 A2.out).mono ?_); (case side1 => exact Z64); (case side2 => exact Z65); rintro e w5 ⟨rfl, hi, hb, hk⟩; refine ⟨_, rfl, ?_⟩; replace HO318 := Z (Kd.R_mono (Kd.R_keep (IsS97.apart (show IsS97 w0 _ g s0_0 s0_1 s0_2 from Z64) (Z12 HO318) (by decide)) hk (fun _ h => h.2)) (fun _ h => h.1)); replace HK := Z (KeepBut.trans Z66 hk (.inl rfl)); replace HB := Z (hb); replace HI0 := Z (hi); (try clear hb); (try clear hb2); (try clear hk); (try clear hi)))
 go_loopg [3, 5] k (fun kq v3 v5 w' => ∃ (x3_1 : List Int) (x5_1 : Int) (x1001_1 : Int) (x1002_1 : Int), v5 = .int .i64 x5_1 ∧ Aside0 (spec_l04Cells.l0 kq x3_1 t319 x5_1 s0_0 x1001_1 x1002_1 = some (r1, r2, r3)) ∧ Aside0 (kq ≤ k) ∧ Aside0 (Kd.R (Kd.int .u32) 47 w' w.heap.size (fun _ => True) v3 x3_1) ∧ Aside0 (IsS97 w0 w' g s0_0 x1001_1 x1002_1) ∧ Aside0 (KeepBut w w' g none) ∧ Aside0 (Below w0.heap.size w0 w'))
 case atStart => exact ⟨(y316), (0), (t320), (t321), Z2, H', ⟨Nat.le_refl _⟩, ⟨(Z12 HO318)⟩, ⟨Z64⟩, ⟨Z66⟩, ⟨Z65⟩⟩
 case round =>
  clear H'
  try clear p2
  try clear c5
  obtain ⟨x3_1, x5_1, x1001_1, x1002_1, rfl, HA, HK1, HO_3, HI0, HK, HB⟩ := hrel
  cases gk with
  | zero => exact absurd HA.out (by simp [spec_l04Cells.l0])
  | succ k1 =>
   have H := HA.out
   clear HA
   simp only [spec_l04Cells.l0] at H
   by_cases c6 : x5_1 < t319
   ·rw [if_pos c6] at H
    have c6b0 : decide (x5_1 < t319) = true := decide_eq_true c6
    clear c6
    replace H := Option.bind_eq_some_iff.mp H
    obtain ⟨⟨t328, t329, t330, t331, t332, t333, t334⟩, A70, H⟩ := H
    replace H : ((spec_CellsOf.f k1 t328 t329 t330 t331 t332).bind fun t335 => (if x3_1.length + t335.length < 35184372088832 then ((some (x3_1 ++ t335 : List Int)).bind fun y338 => ((spec_l01Below.f s0_0 t333 t334 9).bind fun bt341 => (if bt341.1 = 0 then ((spec_l01Word.f s0_0 bt341.2.1 bt341.2.2).bind fun bt344 => (if y338.length < 35184372088832 then (spec_l04Cells.l0 k1 (y338 ++ [bt344.1]) t319 (wrap64 (x5_1 + 1)) s0_0 bt344.2.1 bt344.2.2) else (none))) else (if bt341.1 = 1 then (if y338.length < 35184372088832 then (spec_l04Cells.l0 k1 (y338 ++ [0]) t319 (wrap64 (x5_1 + 1)) s0_0 bt341.2.1 bt341.2.2) else (none)) else (if bt341.1 = 2 then ((spec_l01Below.f s0_0 bt341.2.1 bt341.2.2 4096).bind fun bt353 => (if y338.length < 35184372088832 then (spec_l04Cells.l0 k1 (y338 ++ [(((bt353.1) % 4294967296) * 16) % 4294967296]) t319 (wrap64 (x5_1 + 1)) s0_0 bt353.2.1 bt353.2.2) else (none))) else (if bt341.1 = 3 then ((spec_l01PickInt.f s0_0 bt341.2.1 bt341.2.2 (([2, 18, 5, 34, 12] : List Int))).bind fun bt362 => (if y338.length < 35184372088832 then (spec_l04Cells.l0 k1 (y338 ++ [(bt362.1) % 4294967296]) t319 (wrap64 (x5_1 + 1)) s0_0 bt362.2.1 bt362.2.2) else (none))) else (spec_l04Cells.l0 k1 y338 t319 (wrap64 (x5_1 + 1)) s0_0 bt341.2.1 bt341.2.2))))))) else (none))) = some (r1, r2, r3) := H
    have A7 := Aside0.mk A70
    clear A70
    replace H := Option.bind_eq_some_iff.mp H
    obtain ⟨t335, A80, H⟩ := H
    replace H : (if x3_1.length + t335.length < 35184372088832 then ((some (x3_1 ++ t335 : List Int)).bind fun y338 => ((spec_l01Below.f s0_0 t333 t334 9).bind fun bt341 => (if bt341.1 = 0 then ((spec_l01Word.f s0_0 bt341.2.1 bt341.2.2).bind fun bt344 => (if y338.length < 35184372088832 then (spec_l04Cells.l0 k1 (y338 ++ [bt344.1]) t319 (wrap64 (x5_1 + 1)) s0_0 bt344.2.1 bt344.2.2) else (none))) else (if bt341.1 = 1 then (if y338.length < 35184372088832 then (spec_l04Cells.l0 k1 (y338 ++ [0]) t319 (wrap64 (x5_1 + 1)) s0_0 bt341.2.1 bt341.2.2) else (none)) else (if bt341.1 = 2 then ((spec_l01Below.f s0_0 bt341.2.1 bt341.2.2 4096).bind fun bt353 => (if y338.length < 35184372088832 then (spec_l04Cells.l0 k1 (y338 ++ [(((bt353.1) % 4294967296) * 16) % 4294967296]) t319 (wrap64 (x5_1 + 1)) s0_0 bt353.2.1 bt353.2.2) else (none))) else (if bt341.1 = 3 then ((spec_l01PickInt.f s0_0 bt341.2.1 bt341.2.2 (([2, 18, 5, 34, 12] : List Int))).bind fun bt362 => (if y338.length < 35184372088832 then (spec_l04Cells.l0 k1 (y338 ++ [(bt362.1) % 4294967296]) t319 (wrap64 (x5_1 + 1)) s0_0 bt362.2.1 bt362.2.2) else (none))) else (spec_l04Cells.l0 k1 y338 t319 (wrap64 (x5_1 + 1)) s0_0 bt341.2.1 bt341.2.2))))))) else (none)) = some (r1, r2, r3) := H
    have A8 := Aside0.mk A80
    clear A80
    by_cases c9 : x3_1.length + t335.length < 35184372088832
    ·rw [if_pos c9] at H
     have LMc9 := Aside0.mk c9
     clear c9
     obtain ⟨y338, hy338⟩ : ∃ y_ : List Int, y_ = (x3_1 ++ t335) := ⟨_, rfl⟩
     replace H : ((spec_l01Below.f s0_0 t333 t334 9).bind fun bt341 => (if bt341.1 = 0 then ((spec_l01Word.f s0_0 bt341.2.1 bt341.2.2).bind fun bt344 => (if y338.length < 35184372088832 then (spec_l04Cells.l0 k1 (y338 ++ [bt344.1]) t319 (wrap64 (x5_1 + 1)) s0_0 bt344.2.1 bt344.2.2) else (none))) else (if bt341.1 = 1 then (if y338.length < 35184372088832 then (spec_l04Cells.l0 k1 (y338 ++ [0]) t319 (wrap64 (x5_1 + 1)) s0_0 bt341.2.1 bt341.2.2) else (none)) else (if bt341.1 = 2 then ((spec_l01Below.f s0_0 bt341.2.1 bt341.2.2 4096).bind fun bt353 => (if y338.length < 35184372088832 then (spec_l04Cells.l0 k1 (y338 ++ [(((bt353.1) % 4294967296) * 16) % 4294967296]) t319 (wrap64 (x5_1 + 1)) s0_0 bt353.2.1 bt353.2.2) else (none))) else (if bt341.1 = 3 then ((spec_l01PickInt.f s0_0 bt341.2.1 bt341.2.2 (([2, 18, 5, 34, 12] : List Int))).bind fun bt362 => (if y338.length < 35184372088832 then (spec_l04Cells.l0 k1 (y338 ++ [(bt362.1) % 4294967296]) t319 (wrap64 (x5_1 + 1)) s0_0 bt362.2.1 bt362.2.2) else (none))) else (spec_l04Cells.l0 k1 y338 t319 (wrap64 (x5_1 + 1)) s0_0 bt341.2.1 bt341.2.2)))))) = some (r1, r2, r3) := by first | (rw [hy338]; with_reducible exact H) | (have H2_ := (Option.bind_some _ _).symm.trans H; rw [hy338]; with_reducible exact H2_) | (have H2_ := (Option.bind_some _ _).symm.trans H; with_reducible exact H2_) | with_reducible exact H | (rw [hy338]; exact H) | exact H
     have Ny338 := Aside0.mk hy338
     clear hy338
     replace H := Option.bind_eq_some_iff.mp H
     obtain ⟨⟨t341, t342, t343⟩, A100, H⟩ := H
     replace H : (if t341 = 0 then ((spec_l01Word.f s0_0 t342 t343).bind fun bt344 => (if y338.length < 35184372088832 then (spec_l04Cells.l0 k1 (y338 ++ [bt344.1]) t319 (wrap64 (x5_1 + 1)) s0_0 bt344.2.1 bt344.2.2) else (none))) else (if t341 = 1 then (if y338.length < 35184372088832 then (spec_l04Cells.l0 k1 (y338 ++ [0]) t319 (wrap64 (x5_1 + 1)) s0_0 t342 t343) else (none)) else (if t341 = 2 then ((spec_l01Below.f s0_0 t342 t343 4096).bind fun bt353 => (if y338.length < 35184372088832 then (spec_l04Cells.l0 k1 (y338 ++ [(((bt353.1) % 4294967296) * 16) % 4294967296]) t319 (wrap64 (x5_1 + 1)) s0_0 bt353.2.1 bt353.2.2) else (none))) else (if t341 = 3 then ((spec_l01PickInt.f s0_0 t342 t343 (([2, 18, 5, 34, 12] : List Int))).bind fun bt362 => (if y338.length < 35184372088832 then (spec_l04Cells.l0 k1 (y338 ++ [(bt362.1) % 4294967296]) t319 (wrap64 (x5_1 + 1)) s0_0 bt362.2.1 bt362.2.2) else (none))) else (spec_l04Cells.l0 k1 y338 t319 (wrap64 (x5_1 + 1)) s0_0 t342 t343))))) = some (r1, r2, r3) := H
     have A10 := Aside0.mk A100
     clear A100
     by_cases c11 : t341 = 0
     ·rw [if_pos c11] at H
      have c11b0 : (t341 == 0) = true := beq_iff_eq.mpr c11
      have c11b1 : (t341 != 0) = false := bne_eq_false_iff_eq.mpr c11
      clear c11
      replace H := Option.bind_eq_some_iff.mp H
      obtain ⟨⟨t344, t345, t346⟩, A120, H⟩ := H
      replace H : (if y338.length < 35184372088832 then (spec_l04Cells.l0 k1 (y338 ++ [t344]) t319 (wrap64 (x5_1 + 1)) s0_0 t345 t346) else (none)) = some (r1, r2, r3) := H
      have A12 := Aside0.mk A120
      clear A120
      by_cases c13 : y338.length < 35184372088832
      ·rw [if_pos c13] at H
       have LMc13 := Aside0.mk c13
       clear c13
       obtain ⟨y347, hy347⟩ : ∃ y_ : List Int, y_ = (y338 ++ [t344]) := ⟨_, rfl⟩
       replace H : (spec_l04Cells.l0 k1 y347 t319 (wrap64 (x5_1 + 1)) s0_0 t345 t346) = some (r1, r2, r3) := by first | (rw [hy347]; with_reducible exact H) | (have H2_ := (Option.bind_some _ _).symm.trans H; rw [hy347]; with_reducible exact H2_) | (have H2_ := (Option.bind_some _ _).symm.trans H; with_reducible exact H2_) | with_reducible exact H | (rw [hy347]; exact H) | exact H
       have Ny347 := Aside0.mk hy347
       clear hy347
       have H' := Aside0.mk H
       clear H
       go_wp2_with (first | ((with_reducible refine gate_callee (f := 84) rfl ?_); refine goesL_ (some 16) rfl rfl Try.func84 Z0 rfl #[.pointer (some ⟨g, 0, none⟩)] rfl Z10 ?_; (with_reducible refine (spec_l04Some.calls k1 g s0_0 x1001_1 x1002_1 t328 t329 t330 t331 t332 t333 t334 w0 _ ?side1 ?side2 A7.out).mono ?_); (case side1 => exact Z64); (case side2 => exact Z65); rintro e w14 ⟨rfl, hi, hb, hk⟩; refine ⟨_, rfl, ?_⟩; replace HO_3 := Z (Kd.R_mono (Kd.R_keep (IsS97.apart (show IsS97 w0 _ g s0_0 x1001_1 x1002_1 from Z64) (Z12 HO_3) (by decide)) hk (fun _ h => h.2)) (fun _ h => h.1)); replace HK := Z (KeepBut.trans Z66 hk (.inl rfl)); replace HB := Z (hb); replace HI0 := Z (hi); (try clear hb); (try clear hb2); (try clear hk); (try clear hi)) | ((with_reducible refine gate_callee (f := 83) rfl ?_); refine goesL_ (some 17) rfl rfl Try.func83 Z0 rfl #[.agg #[.int .i64 t328, .string t329, .int .i32 t330, .bool t331, .int .u32 t332]] rfl Z10 ?_; (with_reducible refine (spec_CellsOf.calls k1 t328 t329 t330 t331 t332 t335 _ A8.out).mono ?_); rintro e w15 ⟨v336, rfl, ho0, hb⟩; refine ⟨_, rfl, ?_⟩; have HO337 := Z (Kd.R_lower (Kd.R_new' ho0 (Kd.R_lt (Z12 HO_3))) (keep_size (w := w) (g := g) (row := none) Z66)); replace HO_3 := Z (Kd.R_elder' (Z12 HO_3) (Kd.R_base ho0) hb); replace HK := Z (KeepBut.trans Z66 (KeepBut.of_below hb g none) (.inl rfl)); replace HB := Z (below_step Z65 hb); replace HI0 := Z (IsS97.below Z64 hb); (try clear hb); (try clear hb2); (try clear hk); (try clear hi); (try clear ho0); obtain ⟨Ao17, co17, eo17⟩ := Kd.R_slice HO337.out; subst eo17) | ((with_reducible refine gate_builtin (b := .append) (xs := #[.tmp 14, .tmp 17]) rfl ?_); at_builtin; refine Kd.R_append_rows (Kd.int .u32) w.heap.size rfl (.tmp 14) (.tmp 17) 24 47 (.int .u32 0) 4 rfl Try.underlying24 info47 rfl (by decide) (by omega) u3 x3_1 t335 _ _ _ (fun k_ => some k_ ≠ (.slice Ao17 t335.length co17 : Value).ownBlock) (fun _ => False) rfl rfl ?aO ?aR (fun _ _ h => h) (fun _ h => h.elim) ?aF (Below.refl _ _) ?aS ?aL ?_; (case aR => exact (Z17 HO337)); (case aF => exact (fun k_ hk => Kd.fresh' (Kd.R_lt (Z12 HO337)) k_ hk)); (case aO => exact (Z18 HO_3)); (case aS => exact (keep_size (w := w) (g := g) (row := none) Z66)); (case aL => have := LMc9.out; omega); intro v339 w16 ho hb hg hat; rw [← Ny338.out] at ho; replace HO337 := Z (Kd.R_after (ok := (fun _ => True)) (Z12 HO337) hg hat); replace HB := Z (below_weaken Z65 HL.out hb); replace HI0 := Z (IsS97.grown Z64 hg (IsS97.own_ne HI0.out HO_3.out (by decide))); replace HK := Z (KeepBut.trans Z66 (KeepBut.of_grown hg g) (Kd.R_base2 HO_3.out)); have HO340 := Z (ho); clear HO_3; clear ho hb hg hat) | ((with_reducible refine gate_callee (f := 73) rfl ?_); refine goesL_ (some 20) rfl rfl Try.func73 Z0 rfl #[.pointer (some ⟨g, 0, none⟩), .int .i64 9] rfl Z10 ?_; (with_reducible refine (spec_l01Below.calls g s0_0 t333 t334 9 t341 t342 t343 w0 _ ?side1 ?side2 A10.out).mono ?_); (case side1 => exact Z64); (case side2 => exact Z65); rintro e w18 ⟨rfl, hi, hb, hk⟩; refine ⟨_, rfl, ?_⟩; replace HO337 := Z (Kd.R_mono (Kd.R_keep (IsS97.apart (show IsS97 w0 _ g s0_0 t333 t334 from Z64) (Z12 HO337) (by decide)) hk (fun _ h => h.2)) (fun _ h => h.1)); replace HO340 := Z (Kd.R_mono (Kd.R_keep (IsS97.apart (show IsS97 w0 _ g s0_0 t333 t334 from Z64) (Z12 HO340) (by decide)) hk (fun _ h => h.2)) (fun _ h => h.1)); replace HK := Z (KeepBut.trans Z66 hk (.inl rfl)); replace HB := Z (hb); replace HI0 := Z (hi); (try clear hb); (try clear hb2); (try clear hk); (try clear hi)) | ((with_reducible refine gate_callee (f := 85) rfl ?_); refine goesL_ (some 25) rfl rfl Try.func85 Z0 rfl #[.pointer (some ⟨g, 0, none⟩)] rfl Z10 ?_; (with_reducible refine (spec_l01Word.calls g s0_0 t342 t343 t344 t345 t346 w0 _ ?side1 ?side2 A12.out).mono ?_); (case side1 => exact Z64); (case side2 => exact Z65); rintro e w19 ⟨rfl, hi, hb, hk⟩; refine ⟨_, rfl, ?_⟩; replace HO337 := Z (Kd.R_mono (Kd.R_keep (IsS97.apart (show IsS97 w0 _ g s0_0 t342 t343 from Z64) (Z12 HO337) (by decide)) hk (fun _ h => h.2)) (fun _ h => h.1)); replace HO340 := Z (Kd.R_mono (Kd.R_keep (IsS97.apart (show IsS97 w0 _ g s0_0 t342 t343 from Z64) (Z12 HO340) (by decide)) hk (fun _ h => h.2)) (fun _ h => h.1)); replace HK := Z (KeepBut.trans Z66 hk (.inl rfl)); replace HB := Z (hb); replace HI0 := Z (hi); (try clear hb); (try clear hb2); (try clear hk); (try clear hi)) | ((with_reducible refine gate_builtin (b := .append) (xs := #[.tmp 23, .tmp 26]) rfl ?_); at_builtin; refine Kd.R_append (Kd.int .u32) w.heap.size rfl (.tmp 23) (.tmp 26) 24 47 (.int .u32 0) 4 rfl Try.underlying24 info47 rfl (by decide) (by omega) v339 y338 t344 [.int .u32 t344] (fun k_ => some k_ ≠ (.slice Ao17 t335.length co17 : Value).ownBlock) (fun _ => False) rfl rfl ?aP (fun _ hk => hk.elim) ?aF ?aO (Below.refl _ _) ?aS ?aL ?_; (case aP => exact rfl); (case aF => exact (fun k_ hk => Kd.fresh' (Kd.R_lt (Z12 HO337)) k_ hk)); (case aO => exact (Z12 HO340)); (case aS => exact (keep_size (w := w) (g := g) (row := none) Z66)); (case aL => have := LMc13.out; omega); intro v348 w20 ho hb hg hat; rw [← Ny347.out] at ho; replace HO337 := Z (Kd.R_after (ok := (fun _ => True)) (Z12 HO337) hg hat); replace HB := Z (below_weaken Z65 HL.out hb); replace HI0 := Z (IsS97.grown Z64 hg (IsS97.own_ne HI0.out HO340.out (by decide))); replace HK := Z (KeepBut.trans Z66 (KeepBut.of_grown hg g) (Kd.R_base2 HO340.out)); have HO349 := Z (ho); clear HO340; clear ho hb hg hat))
       go_roundg k1
       case measure => have := HK1.out; omega
       case rel => exact ⟨(y347), (wrap64 (x5_1 + 1)), (t345), (t346), Z2, H', ⟨Z6⟩, ⟨(Z16 HO349)⟩, ⟨Z64⟩, ⟨Z66⟩, ⟨Z65⟩⟩
      ·rw [if_neg c13] at H
       exact absurd H (by simp)
     ·rw [if_neg c11] at H
      have c11b0 : (t341 == 0) = false := beq_eq_false_iff_ne.mpr c11
      have c11b1 : (t341 != 0) = true := bne_iff_ne.mpr c11
      by_cases c21 : t341 = 1
      ·rw [if_pos c21] at H
       have c21b0 : (t341 == 1) = true := beq_iff_eq.mpr c21
       have c21b1 : (t341 != 1) = false := bne_eq_false_iff_eq.mpr c21
       clear c21
       by_cases c22 : y338.length < 35184372088832
       ·rw [if_pos c22] at H
        have LMc22 := Aside0.mk c22
        clear c22
        obtain ⟨y350, hy350⟩ : ∃ y_ : List Int, y_ = (y338 ++ [0]) := ⟨_, rfl⟩
        replace H : (spec_l04Cells.l0 k1 y350 t319 (wrap64 (x5_1 + 1)) s0_0 t342 t343) = some (r1, r2, r3) := by first | (rw [hy350]; with_reducible exact H) | (have H2_ := (Option.bind_some _ _).symm.trans H; rw [hy350]; with_reducible exact H2_) | (have H2_ := (Option.bind_some _ _).symm.trans H; with_reducible exact H2_) | with_reducible exact H | (rw [hy350]; exact H) | exact H
        have Ny350 := Aside0.mk hy350
        clear hy350
        have H' := Aside0.mk H
        clear H
        go_wp2_with (first | ((with_reducible refine gate_callee (f := 84) rfl ?_); refine goesL_ (some 16) rfl rfl Try.func84 Z0 rfl #[.pointer (some ⟨g, 0, none⟩)] rfl Z10 ?_; (with_reducible refine (spec_l04Some.calls k1 g s0_0 x1001_1 x1002_1 t328 t329 t330 t331 t332 t333 t334 w0 _ ?side1 ?side2 A7.out).mono ?_); (case side1 => exact Z64); (case side2 => exact Z65); rintro e w23 ⟨rfl, hi, hb, hk⟩; refine ⟨_, rfl, ?_⟩; replace HO_3 := Z (Kd.R_mono (Kd.R_keep (IsS97.apart (show IsS97 w0 _ g s0_0 x1001_1 x1002_1 from Z64) (Z12 HO_3) (by decide)) hk (fun _ h => h.2)) (fun _ h => h.1)); replace HK := Z (KeepBut.trans Z66 hk (.inl rfl)); replace HB := Z (hb); replace HI0 := Z (hi); (try clear hb); (try clear hb2); (try clear hk); (try clear hi)) | ((with_reducible refine gate_callee (f := 83) rfl ?_); refine goesL_ (some 17) rfl rfl Try.func83 Z0 rfl #[.agg #[.int .i64 t328, .string t329, .int .i32 t330, .bool t331, .int .u32 t332]] rfl Z10 ?_; (with_reducible refine (spec_CellsOf.calls k1 t328 t329 t330 t331 t332 t335 _ A8.out).mono ?_); rintro e w24 ⟨v336, rfl, ho0, hb⟩; refine ⟨_, rfl, ?_⟩; have HO337 := Z (Kd.R_lower (Kd.R_new' ho0 (Kd.R_lt (Z12 HO_3))) (keep_size (w := w) (g := g) (row := none) Z66)); replace HO_3 := Z (Kd.R_elder' (Z12 HO_3) (Kd.R_base ho0) hb); replace HK := Z (KeepBut.trans Z66 (KeepBut.of_below hb g none) (.inl rfl)); replace HB := Z (below_step Z65 hb); replace HI0 := Z (IsS97.below Z64 hb); (try clear hb); (try clear hb2); (try clear hk); (try clear hi); (try clear ho0); obtain ⟨Ao26, co26, eo26⟩ := Kd.R_slice HO337.out; subst eo26) | ((with_reducible refine gate_builtin (b := .append) (xs := #[.tmp 14, .tmp 17]) rfl ?_); at_builtin; refine Kd.R_append_rows (Kd.int .u32) w.heap.size rfl (.tmp 14) (.tmp 17) 24 47 (.int .u32 0) 4 rfl Try.underlying24 info47 rfl (by decide) (by omega) u3 x3_1 t335 _ _ _ (fun k_ => some k_ ≠ (.slice Ao26 t335.length co26 : Value).ownBlock) (fun _ => False) rfl rfl ?aO ?aR (fun _ _ h => h) (fun _ h => h.elim) ?aF (Below.refl _ _) ?aS ?aL ?_; (case aR => exact (Z17 HO337)); (case aF => exact (fun k_ hk => Kd.fresh' (Kd.R_lt (Z12 HO337)) k_ hk)); (case aO => exact (Z18 HO_3)); (case aS => exact (keep_size (w := w) (g := g) (row := none) Z66)); (case aL => have := LMc9.out; omega); intro v339 w25 ho hb hg hat; rw [← Ny338.out] at ho; replace HO337 := Z (Kd.R_after (ok := (fun _ => True)) (Z12 HO337) hg hat); replace HB := Z (below_weaken Z65 HL.out hb); replace HI0 := Z (IsS97.grown Z64 hg (IsS97.own_ne HI0.out HO_3.out (by decide))); replace HK := Z (KeepBut.trans Z66 (KeepBut.of_grown hg g) (Kd.R_base2 HO_3.out)); have HO340 := Z (ho); clear HO_3; clear ho hb hg hat) | ((with_reducible refine gate_callee (f := 73) rfl ?_); refine goesL_ (some 20) rfl rfl Try.func73 Z0 rfl #[.pointer (some ⟨g, 0, none⟩), .int .i64 9] rfl Z10 ?_; (with_reducible refine (spec_l01Below.calls g s0_0 t333 t334 9 t341 t342 t343 w0 _ ?side1 ?side2 A10.out).mono ?_); (case side1 => exact Z64); (case side2 => exact Z65); rintro e w27 ⟨rfl, hi, hb, hk⟩; refine ⟨_, rfl, ?_⟩; replace HO337 := Z (Kd.R_mono (Kd.R_keep (IsS97.apart (show IsS97 w0 _ g s0_0 t333 t334 from Z64) (Z12 HO337) (by decide)) hk (fun _ h => h.2)) (fun _ h => h.1)); replace HO340 := Z (Kd.R_mono (Kd.R_keep (IsS97.apart (show IsS97 w0 _ g s0_0 t333 t334 from Z64) (Z12 HO340) (by decide)) hk (fun _ h => h.2)) (fun _ h => h.1)); replace HK := Z (KeepBut.trans Z66 hk (.inl rfl)); replace HB := Z (hb); replace HI0 := Z (hi); (try clear hb); (try clear hb2); (try clear hk); (try clear hi)) | ((with_reducible refine gate_builtin (b := .append) (xs := #[.tmp 30, .tmp 31]) rfl ?_); at_builtin; refine Kd.R_append (Kd.int .u32) w.heap.size rfl (.tmp 30) (.tmp 31) 24 47 (.int .u32 0) 4 rfl Try.underlying24 info47 rfl (by decide) (by omega) v339 y338 0 [.int .u32 0] (fun k_ => some k_ ≠ (.slice Ao26 t335.length co26 : Value).ownBlock) (fun _ => False) rfl rfl ?aP (fun _ hk => hk.elim) ?aF ?aO (Below.refl _ _) ?aS ?aL ?_; (case aP => exact rfl); (case aF => exact (fun k_ hk => Kd.fresh' (Kd.R_lt (Z12 HO337)) k_ hk)); (case aO => exact (Z12 HO340)); (case aS => exact (keep_size (w := w) (g := g) (row := none) Z66)); (case aL => have := LMc22.out; omega); intro v351 w28 ho hb hg hat; rw [← Ny350.out] at ho; replace HO337 := Z (Kd.R_after (ok := (fun _ => True)) (Z12 HO337) hg hat); replace HB := Z (below_weaken Z65 HL.out hb); replace HI0 := Z (IsS97.grown Z64 hg (IsS97.own_ne HI0.out HO340.out (by decide))); replace HK := Z (KeepBut.trans Z66 (KeepBut.of_grown hg g) (Kd.R_base2 HO340.out)); have HO352 := Z (ho); clear HO340; clear ho hb hg hat))
        go_roundg k1
        case measure => have := HK1.out; omega
        case rel => exact ⟨(y350), (wrap64 (x5_1 + 1)), (t342), (t343), Z2, H', ⟨Z6⟩, ⟨(Z16 HO352)⟩, ⟨Z64⟩, ⟨Z66⟩, ⟨Z65⟩⟩
       ·rw [if_neg c22] at H
        exact absurd H (by simp)
      ·rw [if_neg c21] at H
       have c21b0 : (t341 == 1) = false := beq_eq_false_iff_ne.mpr c21
       have c21b1 : (t341 != 1) = true := bne_iff_ne.mpr c21
       by_cases c29 : t341 = 2
       ·rw [if_pos c29] at H
        have c29b0 : (t341 == 2) = true := beq_iff_eq.mpr c29
        have c29b1 : (t341 != 2) = false := bne_eq_false_iff_eq.mpr c29
        clear c29
        replace H := Option.bind_eq_some_iff.mp H
        obtain ⟨⟨t353, t354, t355⟩, A300, H⟩ := H
        replace H : (if y338.length < 35184372088832 then (spec_l04Cells.l0 k1 (y338 ++ [(((t353) % 4294967296) * 16) % 4294967296]) t319 (wrap64 (x5_1 + 1)) s0_0 t354 t355) else (none)) = some (r1, r2, r3) := H
        have A30 := Aside0.mk A300
        clear A300
        by_cases c31 : y338.length < 35184372088832
        ·rw [if_pos c31] at H
         have LMc31 := Aside0.mk c31
         clear c31
         obtain ⟨y356, hy356⟩ : ∃ y_ : List Int, y_ = (y338 ++ [(((t353) % 4294967296) * 16) % 4294967296]) := ⟨_, rfl⟩
         replace H : (spec_l04Cells.l0 k1 y356 t319 (wrap64 (x5_1 + 1)) s0_0 t354 t355) = some (r1, r2, r3) := by first | (rw [hy356]; with_reducible exact H) | (have H2_ := (Option.bind_some _ _).symm.trans H; rw [hy356]; with_reducible exact H2_) | (have H2_ := (Option.bind_some _ _).symm.trans H; with_reducible exact H2_) | with_reducible exact H | (rw [hy356]; exact H) | exact H
         have Ny356 := Aside0.mk hy356
         clear hy356
         have H' := Aside0.mk H
         clear H
         go_wp2_with (first | ((with_reducible refine gate_callee (f := 84) rfl ?_); refine goesL_ (some 16) rfl rfl Try.func84 Z0 rfl #[.pointer (some ⟨g, 0, none⟩)] rfl Z10 ?_; (with_reducible refine (spec_l04Some.calls k1 g s0_0 x1001_1 x1002_1 t328 t329 t330 t331 t332 t333 t334 w0 _ ?side1 ?side2 A7.out).mono ?_); (case side1 => exact Z64); (case side2 => exact Z65); rintro e w32 ⟨rfl, hi, hb, hk⟩; refine ⟨_, rfl, ?_⟩; replace HO_3 := Z (Kd.R_mono (Kd.R_keep (IsS97.apart (show IsS97 w0 _ g s0_0 x1001_1 x1002_1 from Z64) (Z12 HO_3) (by decide)) hk (fun _ h => h.2)) (fun _ h => h.1)); replace HK := Z (KeepBut.trans Z66 hk (.inl rfl)); replace HB := Z (hb); replace HI0 := Z (hi); (try clear hb); (try clear hb2); (try clear hk); (try clear hi)) | ((with_reducible refine gate_callee (f := 83) rfl ?_); refine goesL_ (some 17) rfl rfl Try.func83 Z0 rfl #[.agg #[.int .i64 t328, .string t329, .int .i32 t330, .bool t331, .int .u32 t332]] rfl Z10 ?_; (with_reducible refine (spec_CellsOf.calls k1 t328 t329 t330 t331 t332 t335 _ A8.out).mono ?_); rintro e w33 ⟨v336, rfl, ho0, hb⟩; refine ⟨_, rfl, ?_⟩; have HO337 := Z (Kd.R_lower (Kd.R_new' ho0 (Kd.R_lt (Z12 HO_3))) (keep_size (w := w) (g := g) (row := none) Z66)); replace HO_3 := Z (Kd.R_elder' (Z12 HO_3) (Kd.R_base ho0) hb); replace HK := Z (KeepBut.trans Z66 (KeepBut.of_below hb g none) (.inl rfl)); replace HB := Z (below_step Z65 hb); replace HI0 := Z (IsS97.below Z64 hb); (try clear hb); (try clear hb2); (try clear hk); (try clear hi); (try clear ho0); obtain ⟨Ao35, co35, eo35⟩ := Kd.R_slice HO337.out; subst eo35) | ((with_reducible refine gate_builtin (b := .append) (xs := #[.tmp 14, .tmp 17]) rfl ?_); at_builtin; refine Kd.R_append_rows (Kd.int .u32) w.heap.size rfl (.tmp 14) (.tmp 17) 24 47 (.int .u32 0) 4 rfl Try.underlying24 info47 rfl (by decide) (by omega) u3 x3_1 t335 _ _ _ (fun k_ => some k_ ≠ (.slice Ao35 t335.length co35 : Value).ownBlock) (fun _ => False) rfl rfl ?aO ?aR (fun _ _ h => h) (fun _ h => h.elim) ?aF (Below.refl _ _) ?aS ?aL ?_; (case aR => exact (Z17 HO337)); (case aF => exact (fun k_ hk => Kd.fresh' (Kd.R_lt (Z12 HO337)) k_ hk)); (case aO => exact (Z18 HO_3)); (case aS => exact (keep_size (w := w) (g := g) (row := none) Z66)); (case aL => have := LMc9.out; omega); intro v339 w34 ho hb hg hat; rw [← Ny338.out] at ho; replace HO337 := Z (Kd.R_after (ok := (fun _ => True)) (Z12 HO337) hg hat); replace HB := Z (below_weaken Z65 HL.out hb); replace HI0 := Z (IsS97.grown Z64 hg (IsS97.own_ne HI0.out HO_3.out (by decide))); replace HK := Z (KeepBut.trans Z66 (KeepBut.of_grown hg g) (Kd.R_base2 HO_3.out)); have HO340 := Z (ho); clear HO_3; clear ho hb hg hat) | ((with_reducible refine gate_callee (f := 73) rfl ?_); refine goesL_ (some 20) rfl rfl Try.func73 Z0 rfl #[.pointer (some ⟨g, 0, none⟩), .int .i64 9] rfl Z10 ?_; (with_reducible refine (spec_l01Below.calls g s0_0 t333 t334 9 t341 t342 t343 w0 _ ?side1 ?side2 A10.out).mono ?_); (case side1 => exact Z64); (case side2 => exact Z65); rintro e w36 ⟨rfl, hi, hb, hk⟩; refine ⟨_, rfl, ?_⟩; replace HO337 := Z (Kd.R_mono (Kd.R_keep (IsS97.apart (show IsS97 w0 _ g s0_0 t333 t334 from Z64) (Z12 HO337) (by decide)) hk (fun _ h => h.2)) (fun _ h => h.1)); replace HO340 := Z (Kd.R_mono (Kd.R_keep (IsS97.apart (show IsS97 w0 _ g s0_0 t333 t334 from Z64) (Z12 HO340) (by decide)) hk (fun _ h => h.2)) (fun _ h => h.1)); replace HK := Z (KeepBut.trans Z66 hk (.inl rfl)); replace HB := Z (hb); replace HI0 := Z (hi); (try clear hb); (try clear hb2); (try clear hk); (try clear hi)) | ((with_reducible refine gate_callee (f := 73) rfl ?_); refine goesL_ (some 37) rfl rfl Try.func73 Z0 rfl #[.pointer (some ⟨g, 0, none⟩), .int .i64 4096] rfl Z10 ?_; (with_reducible refine (spec_l01Below.calls g s0_0 t342 t343 4096 t353 t354 t355 w0 _ ?side1 ?side2 A30.out).mono ?_); (case side1 => exact Z64); (case side2 => exact Z65); rintro e w37 ⟨rfl, hi, hb, hk⟩; refine ⟨_, rfl, ?_⟩; replace HO337 := Z (Kd.R_mono (Kd.R_keep (IsS97.apart (show IsS97 w0 _ g s0_0 t342 t343 from Z64) (Z12 HO337) (by decide)) hk (fun _ h => h.2)) (fun _ h => h.1)); replace HO340 := Z (Kd.R_mono (Kd.R_keep (IsS97.apart (show IsS97 w0 _ g s0_0 t342 t343 from Z64) (Z12 HO340) (by decide)) hk (fun _ h => h.2)) (fun _ h => h.1)); replace HK := Z (KeepBut.trans Z66 hk (.inl rfl)); replace HB := Z (hb); replace HI0 := Z (hi); (try clear hb); (try clear hb2); (try clear hk); (try clear hi)) | ((with_reducible refine gate_builtin (b := .append) (xs := #[.tmp 35, .tmp 40]) rfl ?_); at_builtin; refine Kd.R_append (Kd.int .u32) w.heap.size rfl (.tmp 35) (.tmp 40) 24 47 (.int .u32 0) 4 rfl Try.underlying24 info47 rfl (by decide) (by omega) v339 y338 ((((t353) % 4294967296) * 16) % 4294967296) [.int .u32 ((((t353) % 4294967296) * 16) % 4294967296)] (fun k_ => some k_ ≠ (.slice Ao35 t335.length co35 : Value).ownBlock) (fun _ => False) rfl rfl ?aP (fun _ hk => hk.elim) ?aF ?aO (Below.refl _ _) ?aS ?aL ?_; (case aP => exact rfl); (case aF => exact (fun k_ hk => Kd.fresh' (Kd.R_lt (Z12 HO337)) k_ hk)); (case aO => exact (Z12 HO340)); (case aS => exact (keep_size (w := w) (g := g) (row := none) Z66)); (case aL => have := LMc31.out; omega); intro v357 w38 ho hb hg hat; rw [← Ny356.out] at ho; replace HO337 := Z (Kd.R_after (ok := (fun _ => True)) (Z12 HO337) hg hat); replace HB := Z (below_weaken Z65 HL.out hb); replace HI0 := Z (IsS97.grown Z64 hg (IsS97.own_ne HI0.out HO340.out (by decide))); replace HK := Z (KeepBut.trans Z66 (KeepBut.of_grown hg g) (Kd.R_base2 HO340.out)); have HO358 := Z (ho); clear HO340; clear ho hb hg hat))
         go_roundg k1
         case measure => have := HK1.out; omega
         case rel => exact ⟨(y356), (wrap64 (x5_1 + 1)), (t354), (t355), Z2, H', ⟨Z6⟩, ⟨(Z16 HO358)⟩, ⟨Z64⟩, ⟨Z66⟩, ⟨Z65⟩⟩
        ·rw [if_neg c31] at H
         exact absurd H (by simp)
       ·rw [if_neg c29] at H
        have c29b0 : (t341 == 2) = false := beq_eq_false_iff_ne.mpr c29
        have c29b1 : (t341 != 2) = true := bne_iff_ne.mpr c29
        by_cases c39 : t341 = 3
        ·rw [if_pos c39] at H
         have c39b0 : (t341 == 3) = true := beq_iff_eq.mpr c39
         have c39b1 : (t341 != 3) = false := bne_eq_false_iff_eq.mpr c39
         clear c39
         obtain ⟨y359, hy359⟩ : ∃ y_ : List Int, y_ = (([2, 18, 5, 34, 12] : List Int)) := ⟨_, rfl⟩
         replace H : ((spec_l01PickInt.f s0_0 t342 t343 y359).bind fun bt362 => (if y338.length < 35184372088832 then (spec_l04Cells.l0 k1 (y338 ++ [(bt362.1) % 4294967296]) t319 (wrap64 (x5_1 + 1)) s0_0 bt362.2.1 bt362.2.2) else (none))) = some (r1, r2, r3) := by first | (rw [hy359]; with_reducible exact H) | (have H2_ := (Option.bind_some _ _).symm.trans H; rw [hy359]; with_reducible exact H2_) | (have H2_ := (Option.bind_some _ _).symm.trans H; with_reducible exact H2_) | with_reducible exact H | (rw [hy359]; exact H) | exact H
         have Ny359 := Aside0.mk hy359
         clear hy359
         replace H := Option.bind_eq_some_iff.mp H
         obtain ⟨⟨t362, t363, t364⟩, A400, H⟩ := H
         replace H : (if y338.length < 35184372088832 then (spec_l04Cells.l0 k1 (y338 ++ [(t362) % 4294967296]) t319 (wrap64 (x5_1 + 1)) s0_0 t363 t364) else (none)) = some (r1, r2, r3) := H
         have A40 := Aside0.mk A400
         clear A400
         by_cases c41 : y338.length < 35184372088832
         ·rw [if_pos c41] at H
          have LMc41 := Aside0.mk c41
          clear c41
          obtain ⟨y365, hy365⟩ : ∃ y_ : List Int, y_ = (y338 ++ [(t362) % 4294967296]) := ⟨_, rfl⟩
          replace H : (spec_l04Cells.l0 k1 y365 t319 (wrap64 (x5_1 + 1)) s0_0 t363 t364) = some (r1, r2, r3) := by first | (rw [hy365]; with_reducible exact H) | (have H2_ := (Option.bind_some _ _).symm.trans H; rw [hy365]; with_reducible exact H2_) | (have H2_ := (Option.bind_some _ _).symm.trans H; with_reducible exact H2_) | with_reducible exact H | (rw [hy365]; exact H) | exact H
          have Ny365 := Aside0.mk hy365
          clear hy365
          have H' := Aside0.mk H
          clear H
          go_wp2_with (first | ((with_reducible refine gate_callee (f := 84) rfl ?_); refine goesL_ (some 16) rfl rfl Try.func84 Z0 rfl #[.pointer (some ⟨g, 0, none⟩)] rfl Z10 ?_; (with_reducible refine (spec_l04Some.calls k1 g s0_0 x1001_1 x1002_1 t328 t329 t330 t331 t332 t333 t334 w0 _ ?side1 ?side2 A7.out).mono ?_); (case side1 => exact Z64); (case side2 => exact Z65); rintro e w42 ⟨rfl, hi, hb, hk⟩; refine ⟨_, rfl, ?_⟩; replace HO_3 := Z (Kd.R_mono (Kd.R_keep (IsS97.apart (show IsS97 w0 _ g s0_0 x1001_1 x1002_1 from Z64) (Z12 HO_3) (by decide)) hk (fun _ h => h.2)) (fun _ h => h.1)); replace HK := Z (KeepBut.trans Z66 hk (.inl rfl)); replace HB := Z (hb); replace HI0 := Z (hi); (try clear hb); (try clear hb2); (try clear hk); (try clear hi)) | ((with_reducible refine gate_callee (f := 83) rfl ?_); refine goesL_ (some 17) rfl rfl Try.func83 Z0 rfl #[.agg #[.int .i64 t328, .string t329, .int .i32 t330, .bool t331, .int .u32 t332]] rfl Z10 ?_; (with_reducible refine (spec_CellsOf.calls k1 t328 t329 t330 t331 t332 t335 _ A8.out).mono ?_); rintro e w43 ⟨v336, rfl, ho0, hb⟩; refine ⟨_, rfl, ?_⟩; have HO337 := Z (Kd.R_lower (Kd.R_new' ho0 (Kd.R_lt (Z12 HO_3))) (keep_size (w := w) (g := g) (row := none) Z66)); replace HO_3 := Z (Kd.R_elder' (Z12 HO_3) (Kd.R_base ho0) hb); replace HK := Z (KeepBut.trans Z66 (KeepBut.of_below hb g none) (.inl rfl)); replace HB := Z (below_step Z65 hb); replace HI0 := Z (IsS97.below Z64 hb); (try clear hb); (try clear hb2); (try clear hk); (try clear hi); (try clear ho0); obtain ⟨Ao45, co45, eo45⟩ := Kd.R_slice HO337.out; subst eo45) | ((with_reducible refine gate_builtin (b := .append) (xs := #[.tmp 14, .tmp 17]) rfl ?_); at_builtin; refine Kd.R_append_rows (Kd.int .u32) w.heap.size rfl (.tmp 14) (.tmp 17) 24 47 (.int .u32 0) 4 rfl Try.underlying24 info47 rfl (by decide) (by omega) u3 x3_1 t335 _ _ _ (fun k_ => some k_ ≠ (.slice Ao45 t335.length co45 : Value).ownBlock) (fun _ => False) rfl rfl (by exact (Z18 HO_3)) (Z17 HO337) (fun _ _ h => h) (fun _ h => h.elim) (by exact (fun k_ hk => Kd.fresh' (Kd.R_lt (Z12 HO337)) k_ hk)) (Below.refl _ _) (keep_size (w := w) (g := g) (row := none) Z66) (by have := LMc9.out; omega) ?_; intro v339 w44 ho hb hg hat; rw [← Ny338.out] at ho; replace HO337 := Z (Kd.R_after (ok := (fun _ => True)) (Z12 HO337) hg hat); replace HB := Z (below_weaken Z65 HL.out hb); replace HI0 := Z (IsS97.grown Z64 hg (IsS97.own_ne HI0.out HO_3.out (by decide))); replace HK := Z (KeepBut.trans Z66 (KeepBut.of_grown hg g) (Kd.R_base2 HO_3.out)); have HO340 := Z (ho); clear HO_3; clear ho hb hg hat) | ((with_reducible refine gate_callee (f := 73) rfl ?_); refine goesL_ (some 20) rfl rfl Try.func73 Z0 rfl #[.pointer (some ⟨g, 0, none⟩), .int .i64 9] rfl Z10 ?_; (with_reducible refine (spec_l01Below.calls g s0_0 t333 t334 9 t341 t342 t343 w0 _ ?side1 ?side2 A10.out).mono ?_); (case side1 => exact Z64); (case side2 => exact Z65); rintro e w46 ⟨rfl, hi, hb, hk⟩; refine ⟨_, rfl, ?_⟩; replace HO337 := Z (Kd.R_mono (Kd.R_keep (IsS97.apart (show IsS97 w0 _ g s0_0 t333 t334 from Z64) (Z12 HO337) (by decide)) hk (fun _ h => h.2)) (fun _ h => h.1)); replace HO340 := Z (Kd.R_mono (Kd.R_keep (IsS97.apart (show IsS97 w0 _ g s0_0 t333 t334 from Z64) (Z12 HO340) (by decide)) hk (fun _ h => h.2)) (fun _ h => h.1)); replace HK := Z (KeepBut.trans Z66 hk (.inl rfl)); replace HB := Z (hb); replace HI0 := Z (hi); (try clear hb); (try clear hb2); (try clear hk); (try clear hi)) | ((with_reducible refine gate_dst (N := 46) rfl ?_); refine Kd.R_lit (Kd.int .i64) _ 3 (by rfl) (N := 46) (by rfl) (xs := ([2, 18, 5, 34, 12] : List Int)) (inner := [.int .i64 2, .int .i64 18, .int .i64 5, .int .i64 34, .int .i64 12]) (ok := fun _ => True) (okp := fun _ => True) Z7 (Reps.one (show Kd.M (Kd.int .i64) _ _ _ 2 [.int .i64 2] from rfl) (Reps.one (show Kd.M (Kd.int .i64) _ _ _ 18 [.int .i64 18] from rfl) (Reps.one (show Kd.M (Kd.int .i64) _ _ _ 5 [.int .i64 5] from rfl) (Reps.one (show Kd.M (Kd.int .i64) _ _ _ 34 [.int .i64 34] from rfl) (Reps.one (show Kd.M (Kd.int .i64) _ _ _ 12 [.int .i64 12] from rfl) (Reps.none _ _)))))) (fun _ hk => hk) trivial (Below.refl _ _) (Nat.le_refl _) (by simp) ?_; intro v360 w47 ho48 hb hg_ hnew_; clear hg_ hnew_; (first | rw [← Ny359.out] at ho48 | (simp only [Int.reduceToNat] at ho48; rw [← Ny359.out] at ho48)); replace HO337 := Z (Kd.R_below (Z12 HO337) hb); replace HO340 := Z (Kd.R_below (Z12 HO340) hb); have HO361 := Z (Kd.R_lower ho48 (keep_size (w := w) (g := g) (row := none) Z66)); replace HK := Z (KeepBut.trans Z66 (KeepBut.of_below hb g none) (.inl rfl)); replace HB := Z (below_step Z65 hb); replace HI0 := Z (IsS97.below Z64 hb); clear hb ho48; obtain ⟨Ao49, co49, eo49⟩ := Kd.R_slice HO361.out; subst eo49) | ((with_reducible refine gate_callee (f := 86) rfl ?_); refine goesL_ (some 47) rfl rfl Try.func86 Z0 rfl #[.pointer (some ⟨g, 0, none⟩), .slice Ao49 y359.length co49] rfl Z10 ?_; (with_reducible refine (spec_l01PickInt.calls g s0_0 t342 t343 _ _ y359 t362 t363 t364 w0 _ ?side1 ?side2 ?side3 ?side4 ?side5 A40.out).mono ?_); (case side1 => exact Z64); (case side2 => exact Z65); (case side3 => exact (Z17 HO361)); (case side4 => exact (Kd.R_reads' HO361.out).2.1); (case side5 => exact far_slice (IsS97.own_ne HI0.out HO361.out (by decide))); rintro e w50 ⟨rfl, hi, hb, hk⟩; refine ⟨_, rfl, ?_⟩; replace HO337 := Z (Kd.R_mono (Kd.R_keep (IsS97.apart (show IsS97 w0 _ g s0_0 t342 t343 from Z64) (Z12 HO337) (by decide)) hk (fun _ h => h.2)) (fun _ h => h.1)); replace HO340 := Z (Kd.R_mono (Kd.R_keep (IsS97.apart (show IsS97 w0 _ g s0_0 t342 t343 from Z64) (Z12 HO340) (by decide)) hk (fun _ h => h.2)) (fun _ h => h.1)); replace HO361 := Z (Kd.R_mono (Kd.R_keep (IsS97.apart (show IsS97 w0 _ g s0_0 t342 t343 from Z64) (Z12 HO361) (by decide)) hk (fun _ h => h.2)) (fun _ h => h.1)); replace HK := Z (KeepBut.trans Z66 hk (.inl rfl)); replace HB := Z (hb); replace HI0 := Z (hi); (try clear hb); (try clear hb2); (try clear hk); (try clear hi)) | ((with_reducible refine gate_builtin (b := .append) (xs := #[.tmp 44, .tmp 49]) rfl ?_); at_builtin; refine Kd.R_append (Kd.int .u32) w.heap.size rfl (.tmp 44) (.tmp 49) 24 47 (.int .u32 0) 4 rfl Try.underlying24 info47 rfl (by decide) (by omega) v339 y338 ((t362) % 4294967296) [.int .u32 ((t362) % 4294967296)] (fun k_ => some k_ ≠ (.slice Ao45 t335.length co45 : Value).ownBlock) (fun _ => False) rfl rfl ?aP (fun _ hk => hk.elim) ?aF ?aO (Below.refl _ _) ?aS ?aL ?_; (case aP => exact rfl); (case aF => exact (fun k_ hk => Kd.fresh' (Kd.R_lt (Z12 HO337)) k_ hk)); (case aO => exact (Z12 HO340)); (case aS => exact (keep_size (w := w) (g := g) (row := none) Z66)); (case aL => have := LMc41.out; omega); intro v366 w51 ho hb hg hat; rw [← Ny365.out] at ho; replace HO337 := Z (Kd.R_after (ok := (fun _ => True)) (Z12 HO337) hg hat); replace HO361 := Z (Kd.R_over' (Z12 HO361) (Kd.R_typed (Z12 HO340)) (by decide) hg); replace HB := Z (below_weaken Z65 HL.out hb); replace HI0 := Z (IsS97.grown Z64 hg (IsS97.own_ne HI0.out HO340.out (by decide))); replace HK := Z (KeepBut.trans Z66 (KeepBut.of_grown hg g) (Kd.R_base2 HO340.out)); have HO367 := Z (ho); clear HO340; clear ho hb hg hat))
          go_roundg k1
          case measure => have := HK1.out; omega
          case rel => exact ⟨(y365), (wrap64 (x5_1 + 1)), (t363), (t364), Z2, H', ⟨Z6⟩, ⟨(Z16 HO367)⟩, ⟨Z64⟩, ⟨Z66⟩, ⟨Z65⟩⟩
         ·rw [if_neg c41] at H
          exact absurd H (by simp)
        ·rw [if_neg c39] at H
         have c39b0 : (t341 == 3) = false := beq_eq_false_iff_ne.mpr c39
         have c39b1 : (t341 != 3) = true := bne_iff_ne.mpr c39
         have H' := Aside0.mk H
         clear H
         go_wp2_with (first | ((with_reducible refine gate_callee (f := 84) rfl ?_); refine goesL_ (some 16) rfl rfl Try.func84 Z0 rfl #[.pointer (some ⟨g, 0, none⟩)] rfl Z10 ?_; (with_reducible refine (spec_l04Some.calls k1 g s0_0 x1001_1 x1002_1 t328 t329 t330 t331 t332 t333 t334 w0 _ ?side1 ?side2 A7.out).mono ?_); (case side1 => exact Z64); (case side2 => exact Z65); rintro e w52 ⟨rfl, hi, hb, hk⟩; refine ⟨_, rfl, ?_⟩; replace HO_3 := Z (Kd.R_mono (Kd.R_keep (IsS97.apart (show IsS97 w0 _ g s0_0 x1001_1 x1002_1 from Z64) (Z12 HO_3) (by decide)) hk (fun _ h => h.2)) (fun _ h => h.1)); replace HK := Z (KeepBut.trans Z66 hk (.inl rfl)); replace HB := Z (hb); replace HI0 := Z (hi); (try clear hb); (try clear hb2); (try clear hk); (try clear hi)) | ((with_reducible refine gate_callee (f := 83) rfl ?_); refine goesL_ (some 17) rfl rfl Try.func83 Z0 rfl #[.agg #[.int .i64 t328, .string t329, .int .i32 t330, .bool t331, .int .u32 t332]] rfl Z10 ?_; (with_reducible refine (spec_CellsOf.calls k1 t328 t329 t330 t331 t332 t335 _ A8.out).mono ?_); rintro e w53 ⟨v336, rfl, ho0, hb⟩; refine ⟨_, rfl, ?_⟩; have HO337 := Z (Kd.R_lower (Kd.R_new' ho0 (Kd.R_lt (Z12 HO_3))) (keep_size (w := w) (g := g) (row := none) Z66)); replace HO_3 := Z (Kd.R_elder' (Z12 HO_3) (Kd.R_base ho0) hb); replace HK := Z (KeepBut.trans Z66 (KeepBut.of_below hb g none) (.inl rfl)); replace HB := Z (below_step Z65 hb); replace HI0 := Z (IsS97.below Z64 hb); (try clear hb); (try clear hb2); (try clear hk); (try clear hi); (try clear ho0); obtain ⟨Ao55, co55, eo55⟩ := Kd.R_slice HO337.out; subst eo55) | ((with_reducible refine gate_builtin (b := .append) (xs := #[.tmp 14, .tmp 17]) rfl ?_); at_builtin; refine Kd.R_append_rows (Kd.int .u32) w.heap.size rfl (.tmp 14) (.tmp 17) 24 47 (.int .u32 0) 4 rfl Try.underlying24 info47 rfl (by decide) (by omega) u3 x3_1 t335 _ _ _ (fun k_ => some k_ ≠ (.slice Ao55 t335.length co55 : Value).ownBlock) (fun _ => False) rfl rfl ?aO ?aR (fun _ _ h => h) (fun _ h => h.elim) ?aF (Below.refl _ _) ?aS ?aL ?_; (case aR => exact (Z17 HO337)); (case aF => exact (fun k_ hk => Kd.fresh' (Kd.R_lt (Z12 HO337)) k_ hk)); (case aO => exact (Z18 HO_3)); (case aS => exact (keep_size (w := w) (g := g) (row := none) Z66)); (case aL => have := LMc9.out; omega); intro v339 w54 ho hb hg hat; rw [← Ny338.out] at ho; replace HO337 := Z (Kd.R_after (ok := (fun _ => True)) (Z12 HO337) hg hat); replace HB := Z (below_weaken Z65 HL.out hb); replace HI0 := Z (IsS97.grown Z64 hg (IsS97.own_ne HI0.out HO_3.out (by decide))); replace HK := Z (KeepBut.trans Z66 (KeepBut.of_grown hg g) (Kd.R_base2 HO_3.out)); have HO340 := Z (ho); clear HO_3; clear ho hb hg hat) | ((with_reducible refine gate_callee (f := 73) rfl ?_); refine goesL_ (some 20) rfl rfl Try.func73 Z0 rfl #[.pointer (some ⟨g, 0, none⟩), .int .i64 9] rfl Z10 ?_; (with_reducible refine (spec_l01Below.calls g s0_0 t333 t334 9 t341 t342 t343 w0 _ ?side1 ?side2 A10.out).mono ?_); (case side1 => exact Z64); (case side2 => exact Z65); rintro e w56 ⟨rfl, hi, hb, hk⟩; refine ⟨_, rfl, ?_⟩; replace HO337 := Z (Kd.R_mono (Kd.R_keep (IsS97.apart (show IsS97 w0 _ g s0_0 t333 t334 from Z64) (Z12 HO337) (by decide)) hk (fun _ h => h.2)) (fun _ h => h.1)); replace HO340 := Z (Kd.R_mono (Kd.R_keep (IsS97.apart (show IsS97 w0 _ g s0_0 t333 t334 from Z64) (Z12 HO340) (by decide)) hk (fun _ h => h.2)) (fun _ h => h.1)); replace HK := Z (KeepBut.trans Z66 hk (.inl rfl)); replace HB := Z (hb); replace HI0 := Z (hi); (try clear hb); (try clear hb2); (try clear hk); (try clear hi)))
         go_roundg k1
         case measure => have := HK1.out; omega
         case rel => exact ⟨(y338), (wrap64 (x5_1 + 1)), (t342), (t343), Z2, H', ⟨Z6⟩, ⟨(Z16 HO340)⟩, ⟨Z64⟩, ⟨Z66⟩, ⟨Z65⟩⟩
    ·rw [if_neg c9] at H
     exact absurd H (by simp)
   ·rw [if_neg c6] at H
    have c6b0 : decide (x5_1 < t319) = false := decide_eq_false c6
    clear c6
    by_cases c57 : (x3_1.length : Int) > 64
    ·rw [if_pos c57] at H
     have c57b0 : decide (64 < (x3_1.length : Int)) = true := decide_eq_true c57
     have c57b1 : decide (64 < x3_1.length) = true := decide_eq_true (by omega)
     clear c57
     replace H := Option.bind_eq_some_iff.mp H
     obtain ⟨⟨t322, t323, t324⟩, A580, H⟩ := H
     replace H : (if t322 = true then (some (x3_1, t323, t324)) else (if 64 ≤ (x3_1.length : Int) then (some ((x3_1.take (64 : Int).toNat), t323, t324)) else (none))) = some (r1, r2, r3) := H
     have A58 := Aside0.mk A580
     clear A580
     by_cases c59 : t322 = true
     ·subst c59
      have H1 : (some (x3_1, t323, t324)) = some (r1, r2, r3) := Z11
      clear H
      have H := H1
      clear H1
      simp only [Option.some.injEq, Prod.mk.injEq] at H
      obtain ⟨rfl, rfl, rfl⟩ := H
      obtain ⟨Ao60, co60, eo60⟩ := Kd.R_slice HO_3.out
      subst eo60
      go_wp2_with (first | (go_at_call 87; (with_reducible refine (spec_l01Once.calls g s0_0 x1001_1 x1002_1 6 true t323 t324 w0 _ ?side1 ?side2 A58.out).mono ?_); (case side1 => exact Z64); (case side2 => exact Z65); rintro e w61 ⟨rfl, hi, hb, hk⟩; replace HO_3 := Z (Kd.R_mono (Kd.R_keep (IsS97.apart (show IsS97 w0 _ g s0_0 x1001_1 x1002_1 from Z64) (Z12 HO_3) (by decide)) hk (fun _ h => h.2)) (fun _ h => h.1)); replace HK := Z (KeepBut.trans Z66 hk (.inl rfl)); replace HB := Z (hb); replace HI0 := Z (hi); (try clear hb); (try clear hb2); (try clear hk); (try clear hi)))
      go_ret
      exact ⟨_, Z9, (Z12 HO_3), Z64, Z65, Z66⟩
     ·replace c59 := Bool.eq_false_iff.mpr c59
      subst c59
      have H1 : (if 64 ≤ (x3_1.length : Int) then (some ((x3_1.take (64 : Int).toNat), t323, t324)) else (none)) = some (r1, r2, r3) := by rw [if_neg (show ¬ (false = true) by decide)] at H; exact H
      clear H
      have H := H1
      clear H1
      by_cases c62 : 64 ≤ (x3_1.length : Int)
      ·rw [if_pos c62] at H
       have c62b0 := eq_true c62
       have c62b1 : decide (64 ≤ (x3_1.length : Int)) = true := decide_eq_true c62
       clear c62
       obtain ⟨y325, hy325⟩ : ∃ y_ : List Int, y_ = (x3_1.take (64 : Int).toNat) := ⟨_, rfl⟩
       replace H : (some (y325, t323, t324)) = some (r1, r2, r3) := by first | (rw [hy325]; with_reducible exact H) | (have H2_ := (Option.bind_some _ _).symm.trans H; rw [hy325]; with_reducible exact H2_) | (have H2_ := (Option.bind_some _ _).symm.trans H; with_reducible exact H2_) | with_reducible exact H | (rw [hy325]; exact H) | exact H
       have Ny325 := Aside0.mk hy325
       clear hy325
       simp only [Option.some.injEq, Prod.mk.injEq] at H
       obtain ⟨rfl, rfl, rfl⟩ := H
       obtain ⟨Ao63, co63, eo63⟩ := Kd.R_slice HO_3.out
       subst eo63
       go_wp2_with (first | (go_at_call 87; (with_reducible refine (spec_l01Once.calls g s0_0 x1001_1 x1002_1 6 false t323 t324 w0 _ ?side1 ?side2 A58.out).mono ?_); (case side1 => exact Z64); (case side2 => exact Z65); rintro e w64 ⟨rfl, hi, hb, hk⟩; replace HO_3 := Z (Kd.R_mono (Kd.R_keep (IsS97.apart (show IsS97 w0 _ g s0_0 x1001_1 x1002_1 from Z64) (Z12 HO_3) (by decide)) hk (fun _ h => h.2)) (fun _ h => h.1)); replace HK := Z (KeepBut.trans Z66 hk (.inl rfl)); replace HB := Z (hb); replace HI0 := Z (hi); (try clear hb); (try clear hb2); (try clear hk); (try clear hi); (try clear hcut64); have q65 : (64 : Int) ≤ ((x3_1.length : Int) : Int) := of_decide_eq_true Z5; obtain ⟨i065, hi065, _, hsz65, _⟩ := info_parts info47; have hcut65 := cut_to (P := Try.prog) 24 47 .i64 Try.underlying24 hi065 Ao63 x3_1.length co63 64 (by omega) q65 (Kd.R_reads' HO_3.out).2.1; have hr65 := Kd.R_take (m := (64 : Int).toNat) HO_3.out (by omega); have hy65 : y325.length = (64 : Int).toNat := (by rw [Ny325.out, List.length_take]; omega); rw [← Ny325.out] at hr65; rw [← hy65] at hr65 hcut65; clear hy65 hi065 hsz65 HO_3; have HO327 := Aside0.mk hr65; clear hr65; replace q65 := eq_true q65))
       go_ret
       exact ⟨_, Z9, (Z12 HO327), Z64, Z65, Z66⟩
      ·rw [if_neg c62] at H
       exact absurd H (by simp)
    ·rw [if_neg c57] at H
     have c57b0 : decide (64 < (x3_1.length : Int)) = false := decide_eq_false c57
     have c57b1 : decide (64 < x3_1.length) = false := decide_eq_false (by omega)
     clear c57
     simp only [Option.some.injEq, Prod.mk.injEq] at H
     obtain ⟨rfl, rfl, rfl⟩ := H
     obtain ⟨Ao66, co66, eo66⟩ := Kd.R_slice HO_3.out
     subst eo66
     go_wp2
     go_ret
     exact ⟨_, Z9, (Z12 HO_3), Z64, Z65, Z66⟩

/-! ### spec_DrawParseCells: function 14 -/
def spec_DrawParseCells.f (k : Nat) (l0 : List Int) : Option (List Int) := (spec_l01New.f k l0).bind fun bt368 => ((spec_l04Cells.f k bt368.1 bt368.2.1 bt368.2.2).bind fun bt372 => (some bt372.1))
theorem spec_DrawParseCells.mono : ∀ a0 k, LeO (spec_DrawParseCells.f k a0) (spec_DrawParseCells.f (k + 1) a0) := by
 intro a0 k
 unfold spec_DrawParseCells.f
 repeat' first
   | (with_reducible exact spec_l01New.mono _ _)
   | (with_reducible exact spec_l04Cells.mono _ _ _ _)
   | (with_reducible exact LeO.refl _)
   | (with_reducible exact LeO.none _)
   | (with_reducible refine LeO.ite ?_ ?_)
   | (with_reducible refine LeO.bind ?_ (fun _ => ?_))
   | exact spec_l01New.mono _ _
   | exact spec_l04Cells.mono _ _ _ _
   | exact LeO.none _
   | refine LeO.ite ?_ ?_
   | refine LeO.bind ?_ (fun _ => ?_)
set_option maxHeartbeats 8000000 in
set_option maxRecDepth 100000 in
theorem spec_DrawParseCells.calls (k : Nat) (A0 : Option Addr) (c0 : Nat) (l0 : List Int) (r : List Int) (w : World) (hr0 : Kd.C (Kd.int .u8) w A0 l0.length l0) (hc0 : l0.length ≤ c0) (h : spec_DrawParseCells.f k l0 = some r) :
  Calls Try.prog 14 #[.slice A0 l0.length c0] w fun e w' => ∃ v0_ : Value, e = .returned (v0_) ∧ Kd.R (Kd.int .u32) 47 w' w.heap.size (fun _ => True) v0_ r ∧ Below w.heap.size w w' := by
 have HR0 := Aside0.mk hr0
 have HC0 := Aside0.mk hc0
 clear hr0 hc0
 have HB := Z (Below.refl w.heap.size w)
 have H : ((spec_l01New.f k l0).bind fun bt368 => ((spec_l04Cells.f k bt368.1 bt368.2.1 bt368.2.2).bind fun bt372 => (some bt372.1))) = some r := h
 clear h
 replace H := Option.bind_eq_some_iff.mp H
 obtain ⟨⟨t368, t369, t370⟩, A20, H⟩ := H
 replace H : ((spec_l04Cells.f k t368 t369 t370).bind fun bt372 => (some bt372.1)) = some r := H
 have A2 := Aside0.mk A20
 clear A20
 replace H := Option.bind_eq_some_iff.mp H
 obtain ⟨⟨t372, t375, t376⟩, A30, H⟩ := H
 replace H : (some t372) = some r := H
 have A3 := Aside0.mk A30
 clear A30
 obtain rfl := Option.some.inj H
 go_enter Try.func14, Try.ntmps14
 go_wp2_with (first | ((with_reducible refine gate_callee (f := 57) rfl ?_); refine goesL_ (some 5) rfl rfl Try.func57 Z0 rfl #[.slice A0 l0.length c0] rfl Z10 ?_; (with_reducible refine (spec_l01New.calls k _ _ l0 t368 t369 t370 w _ ?side1 ?side2 ?side3 A2.out).mono ?_); (case side1 => exact Z63); (case side2 => exact HR0.out); (case side3 => exact HC0.out); rintro e w4 ⟨g371, rfl, hi, hb, hb2⟩; refine ⟨_, rfl, ?_⟩; replace HB := Z (hb); have HI371 := Z (hi); (try clear hb); (try clear hb2); (try clear hk); (try clear hi)) | ((with_reducible refine gate_callee (f := 58) rfl ?_); refine goesL_ (some 7) rfl rfl Try.func58 Z0 rfl #[.pointer (some ⟨g371, 0, none⟩)] rfl Z10 ?_; (with_reducible refine (spec_l04Cells.calls k g371 t368 t369 t370 t372 t375 t376 w _ ?side1 ?side2 A3.out).mono ?_); (case side1 => exact (by repeat (first | (with_reducible first | exact HI371.out | apply IsS97.alloc | apply IsS97.drewN | apply IsS97.drew | apply IsS97.set_1 | apply IsS97.set_2) | exact HI371.out))); (case side2 => exact Z19); rintro e w5 ⟨v373, rfl, ho0, hi, hb, hk⟩; refine ⟨_, rfl, ?_⟩; have HO374 := Z (Kd.R_lower ho0 (below_size Z19)); replace HB := Z (hb); replace HI371 := Z (hi); (try clear hb); (try clear hb2); (try clear hk); (try clear hi); (try clear ho0)))
 go_ret
 exact ⟨_, Z9, (Z12 HO374), Z19⟩

/-! ### impl_nameTag: function 70 -/
def impl_nameTag.f (a0 : Int) : Option (Int) := if a0 = 1 then (some 1) else (if a0 = 2 then (some 3) else (if a0 = 3 then (some 4) else (if a0 = 4 then (some 9) else (if a0 = 5 then (some 10) else (if a0 = 6 then (some 11) else (some 0))))))
set_option maxHeartbeats 8000000 in
set_option maxRecDepth 100000 in
theorem impl_nameTag.calls (a0 : Int) (r : Int) (w : World) (h : impl_nameTag.f a0 = some r) :
  Calls Try.prog 70 #[.int .i64 a0] w fun e w' => e = .returned (.int .u32 r) ∧ Drawn0 w w' := by
 have H : (if a0 = 1 then (some 1) else (if a0 = 2 then (some 3) else (if a0 = 3 then (some 4) else (if a0 = 4 then (some 9) else (if a0 = 5 then (some 10) else (if a0 = 6 then (some 11) else (some 0))))))) = some r := h
 clear h
 by_cases c2 : a0 = 1
 ·rw [if_pos c2] at H
  have c2b0 : (a0 == 1) = true := beq_iff_eq.mpr c2
  have c2b1 : (a0 != 1) = false := bne_eq_false_iff_eq.mpr c2
  clear c2
  obtain rfl := Option.some.inj H
  go_enter Try.func70, Try.ntmps70
  go_wp2
  go_ret
  exact ⟨Z2, Z3⟩
 ·rw [if_neg c2] at H
  have c2b0 : (a0 == 1) = false := beq_eq_false_iff_ne.mpr c2
  have c2b1 : (a0 != 1) = true := bne_iff_ne.mpr c2
  by_cases c3 : a0 = 2
  ·rw [if_pos c3] at H
   have c3b0 : (a0 == 2) = true := beq_iff_eq.mpr c3
   have c3b1 : (a0 != 2) = false := bne_eq_false_iff_eq.mpr c3
   clear c3
   obtain rfl := Option.some.inj H
   go_enter Try.func70, Try.ntmps70
   go_wp2
   go_ret
   exact ⟨Z2, Z3⟩
  ·rw [if_neg c3] at H
   have c3b0 : (a0 == 2) = false := beq_eq_false_iff_ne.mpr c3
   have c3b1 : (a0 != 2) = true := bne_iff_ne.mpr c3
   by_cases c4 : a0 = 3
   ·rw [if_pos c4] at H
    have c4b0 : (a0 == 3) = true := beq_iff_eq.mpr c4
    have c4b1 : (a0 != 3) = false := bne_eq_false_iff_eq.mpr c4
    clear c4
    obtain rfl := Option.some.inj H
    go_enter Try.func70, Try.ntmps70
    go_wp2
    go_ret
    exact ⟨Z2, Z3⟩
   ·rw [if_neg c4] at H
    have c4b0 : (a0 == 3) = false := beq_eq_false_iff_ne.mpr c4
    have c4b1 : (a0 != 3) = true := bne_iff_ne.mpr c4
    by_cases c5 : a0 = 4
    ·rw [if_pos c5] at H
     have c5b0 : (a0 == 4) = true := beq_iff_eq.mpr c5
     have c5b1 : (a0 != 4) = false := bne_eq_false_iff_eq.mpr c5
     clear c5
     obtain rfl := Option.some.inj H
     go_enter Try.func70, Try.ntmps70
     go_wp2
     go_ret
     exact ⟨Z2, Z3⟩
    ·rw [if_neg c5] at H
     have c5b0 : (a0 == 4) = false := beq_eq_false_iff_ne.mpr c5
     have c5b1 : (a0 != 4) = true := bne_iff_ne.mpr c5
     by_cases c6 : a0 = 5
     ·rw [if_pos c6] at H
      have c6b0 : (a0 == 5) = true := beq_iff_eq.mpr c6
      have c6b1 : (a0 != 5) = false := bne_eq_false_iff_eq.mpr c6
      clear c6
      obtain rfl := Option.some.inj H
      go_enter Try.func70, Try.ntmps70
      go_wp2
      go_ret
      exact ⟨Z2, Z3⟩
     ·rw [if_neg c6] at H
      have c6b0 : (a0 == 5) = false := beq_eq_false_iff_ne.mpr c6
      have c6b1 : (a0 != 5) = true := bne_iff_ne.mpr c6
      by_cases c7 : a0 = 6
      ·rw [if_pos c7] at H
       have c7b0 : (a0 == 6) = true := beq_iff_eq.mpr c7
       have c7b1 : (a0 != 6) = false := bne_eq_false_iff_eq.mpr c7
       clear c7
       obtain rfl := Option.some.inj H
       go_enter Try.func70, Try.ntmps70
       go_wp2
       go_ret
       exact ⟨Z2, Z3⟩
      ·rw [if_neg c7] at H
       have c7b0 : (a0 == 6) = false := beq_eq_false_iff_ne.mpr c7
       have c7b1 : (a0 != 6) = true := bne_iff_ne.mpr c7
       obtain rfl := Option.some.inj H
       go_enter Try.func70, Try.ntmps70
       go_wp2
       go_ret
       exact ⟨Z2, Z3⟩

/-! ### impl_within: function 103 -/
def impl_within.f (a0 : Int) (a1 : Int) (a2 : Int) : Option (Bool) := if a1 ≤ a0 then (some (decide (a0 ≤ a2))) else (some false)
set_option maxHeartbeats 8000000 in
set_option maxRecDepth 100000 in
theorem impl_within.calls (a0 : Int) (a1 : Int) (a2 : Int) (r : Bool) (w : World) (h : impl_within.f a0 a1 a2 = some r) :
  Calls Try.prog 103 #[.int .i64 a0, .int .i64 a1, .int .i64 a2] w fun e w' => e = .returned (.bool r) ∧ Drawn0 w w' := by
 have H : (if a1 ≤ a0 then (some (decide (a0 ≤ a2))) else (some false)) = some r := h
 clear h
 by_cases c4 : a1 ≤ a0
 ·rw [if_pos c4] at H
  have c4b0 : decide (a1 ≤ a0) = true := decide_eq_true c4
  clear c4
  obtain rfl := Option.some.inj H
  go_enter Try.func103, Try.ntmps103
  go_wp2
  go_ret
  exact ⟨Z2, Z3⟩
 ·rw [if_neg c4] at H
  have c4b0 : decide (a1 ≤ a0) = false := decide_eq_false c4
  clear c4
  obtain rfl := Option.some.inj H
  go_enter Try.func103, Try.ntmps103
  go_wp2
  go_ret
  exact ⟨Z2, Z3⟩

/-! ### impl_letters: function 124 -/
def impl_letters.f  : Option (ByteArray) := some (⟨#[32, 114, 116, 111, 101, 97, 110, 105, 115, 109, 99, 121, 108, 103, 102, 119, 100, 118, 112, 98, 104, 120, 117, 113, 48, 49, 50, 51, 52, 53, 54, 55, 56, 57, 106, 45, 107, 46, 122, 47, 59, 39, 33, 43, 64, 42, 44, 63]⟩ : ByteArray)
set_option maxHeartbeats 8000000 in
set_option maxRecDepth 100000 in
theorem impl_letters.calls  (r : ByteArray) (w : World) (h : impl_letters.f  = some r) :
  Calls Try.prog 124 #[] w fun e w' => e = .returned (.string r) ∧ Drawn0 w w' := by
 have H : (some (⟨#[32, 114, 116, 111, 101, 97, 110, 105, 115, 109, 99, 121, 108, 103, 102, 119, 100, 118, 112, 98, 104, 120, 117, 113, 48, 49, 50, 51, 52, 53, 54, 55, 56, 57, 106, 45, 107, 46, 122, 47, 59, 39, 33, 43, 64, 42, 44, 63]⟩ : ByteArray)) = some r := h
 clear h
 obtain rfl := Option.some.inj H
 go_enter Try.func124, Try.ntmps124
 go_wp2
 go_ret
 exact ⟨Z2, Z3⟩

-- NOT PRINTED: function 134 (bytealg_IndexByteString)

/-! ### stringslite_IndexByte: function 133 (by hand: it calls an entry without a body) -/
def stringslite_IndexByte.f (a0 : ByteArray) (a1 : Int) : Option (Int) := some (Lib.indexByte a0.data.toList a1.toNat.toUInt8)
set_option maxHeartbeats 1000000 in
set_option maxRecDepth 100000 in
theorem stringslite_IndexByte.calls (a0 : ByteArray) (a1 : Int) (r : Int) (w : World) (h : stringslite_IndexByte.f a0 a1 = some r) :
  Calls Try.prog 133 #[.string a0, .int .u8 a1] w fun e w' => e = .returned (.int .i64 r) ∧ Drawn0 w w' := by
 obtain rfl := Option.some.inj h
 go_enter Try.func133, Try.ntmps133
 go_wp2
 rw [run_callFunc_extern Try.func134 Z0 Z0 Z0 (e := Extern.BytealgIndexByte.indexByte) Z0, Lib.run_indexByteString]
 simp only [Result.andThen]
 rw [Oper.upon_value]
 go_wp2
 go_ret
 exact ⟨rfl, Drawn0.refl _⟩

/-! ### strings_IndexByte: function 131 -/
def strings_IndexByte.f (a0 : ByteArray) (a1 : Int) : Option (Int) := (stringslite_IndexByte.f a0 a1).bind fun t377 => (some t377)
set_option maxHeartbeats 8000000 in
set_option maxRecDepth 100000 in
theorem strings_IndexByte.calls (a0 : ByteArray) (a1 : Int) (r : Int) (w : World) (h : strings_IndexByte.f a0 a1 = some r) :
  Calls Try.prog 131 #[.string a0, .int .u8 a1] w fun e w' => e = .returned (.int .i64 r) ∧ Drawn0 w w' := by
 have H : ((stringslite_IndexByte.f a0 a1).bind fun t377 => (some t377)) = some r := h
 clear h
 replace H := Option.bind_eq_some_iff.mp H
 obtain ⟨t377, A30, H⟩ := H
 replace H : (some t377) = some r := H
 have A3 := Aside0.mk A30
 clear A30
 obtain rfl := Option.some.inj H
 go_enter Try.func131, Try.ntmps131
 go_wp2_with (first | ((with_reducible refine gate_callee (f := 133) rfl ?_); refine goesL_ (some 7) rfl rfl Try.func133 Z0 rfl #[.string a0, .int .u8 a1] rfl Z10 ?_; (with_reducible refine (stringslite_IndexByte.calls a0 a1 t377 _ A3.out).mono ?_); rintro e w' ⟨rfl, ⟨nd, rfl⟩⟩; refine ⟨_, rfl, ?_⟩))
 go_ret
 exact ⟨Z2, Z3⟩

/-! ### impl_LetterOf: function 121 -/
def impl_LetterOf.f (a0 : Int) : Option (Int) := (impl_letters.f).bind fun t378 => ((strings_IndexByte.f t378 a0).bind fun t379 => (some t379))
set_option maxHeartbeats 8000000 in
set_option maxRecDepth 100000 in
theorem impl_LetterOf.calls (a0 : Int) (r : Int) (w : World) (h : impl_LetterOf.f a0 = some r) :
  Calls Try.prog 121 #[.int .u8 a0] w fun e w' => e = .returned (.int .i64 r) ∧ Drawn0 w w' := by
 have H : ((impl_letters.f).bind fun t378 => ((strings_IndexByte.f t378 a0).bind fun t379 => (some t379))) = some r := h
 clear h
 replace H := Option.bind_eq_some_iff.mp H
 obtain ⟨t378, A20, H⟩ := H
 replace H : ((strings_IndexByte.f t378 a0).bind fun t379 => (some t379)) = some r := H
 have A2 := Aside0.mk A20
 clear A20
 replace H := Option.bind_eq_some_iff.mp H
 obtain ⟨t379, A30, H⟩ := H
 replace H : (some t379) = some r := H
 have A3 := Aside0.mk A30
 clear A30
 obtain rfl := Option.some.inj H
 go_enter Try.func121, Try.ntmps121
 go_wp2_with (first | ((with_reducible refine gate_callee (f := 124) rfl ?_); refine goesL_ (some 3) rfl rfl Try.func124 Z0 rfl #[] rfl Z10 ?_; (with_reducible refine (impl_letters.calls  t378 _ A2.out).mono ?_); rintro e w' ⟨rfl, ⟨nd, rfl⟩⟩; refine ⟨_, rfl, ?_⟩) | ((with_reducible refine gate_callee (f := 131) rfl ?_); refine goesL_ (some 5) rfl rfl Try.func131 Z0 rfl #[.string t378, .int .u8 a0] rfl Z10 ?_; (with_reducible refine (strings_IndexByte.calls t378 a0 t379 _ A3.out).mono ?_); rintro e w' ⟨rfl, ⟨nd, rfl⟩⟩; refine ⟨_, rfl, ?_⟩))
 go_ret
 exact ⟨Z2, Z3⟩

end Go.Proofs.Ytkkiibjnpkjijaa.QFnCells
