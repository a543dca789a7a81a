/-
Plain functions for the Go functions that a law reaches, each with a proof that the translation's call comes to just that; no conditions beyond those written in each.
-/
import Derived.Test.YtkkiibjnpkjijaaSFnBlocks
import Derived.Test.YtkkiibjnpkjijaaQFnBlocksx2
import Derived.Test.YtkkiibjnpkjijaaQFnBlocksx4
namespace Go.Proofs.Ytkkiibjnpkjijaa.QFnBlocks
open Go.RowKit Go.Proofs.YtkkiibjnpkjijaaW.PrintWords Go.Proofs.YtkkiibjnpkjijaaW.PrintLast Go.Proofs.YtkkiibjnpkjijaaW.PrintMore
attribute [local go_sem] max2_int min2_int max_two min_two max_three min_three max_four min_four   -- for this text's walks alone
set_option linter.unusedVariables false
set_option linter.unusedSimpArgs false

/-! ### spec_l02Name: function 112 -/
def spec_l02Name.l0 : Nat → List Int → Int → Int → List Int → Int → Int → Option (ByteArray × Int × Int)
 | 0, _, _, _, _, _, _ => none
 | k + 1, x3, x4, x5, x1000, x1001, x1002 => if x5 < x4 then ((spec_l01Below.f x1000 x1001 x1002 47).bind fun bt301 => ((spec_LetterAt.f (wrap64 (1 + bt301.1))).bind fun t304 => (if x3.length < 140737488355328 then (spec_l02Name.l0 k (x3 ++ [t304]) x4 (wrap64 (x5 + 1)) x1000 bt301.2.1 bt301.2.2) else (none)))) else (some (strOfNums x3, x1001, x1002))
def spec_l02Name.f (k : Nat) (s0_0 : List Int) (s0_1 : Int) (s0_2 : Int) : Option (ByteArray × Int × Int) := (spec_l01Once.f s0_0 s0_1 s0_2 2).bind fun bt286 => (if bt286.1 = true then ((spec_l01Pick.f s0_0 bt286.2.1 bt286.2.2 (([(⟨#[100, 117, 112]⟩ : ByteArray), (⟨#[111, 118, 101, 114]⟩ : ByteArray), (⟨#[115, 113, 117, 97, 114, 101]⟩ : ByteArray), (⟨#[97, 33]⟩ : ByteArray), (⟨#[50, 42]⟩ : ByteArray), (⟨#[103, 111]⟩ : ByteArray), (⟨#[45, 105, 102]⟩ : ByteArray), (⟨#[59]⟩ : ByteArray), (⟨#[63]⟩ : ByteArray), (⟨#[114, 114, 114, 114, 114, 114, 114]⟩ : ByteArray), (⟨#[114, 116, 111, 101, 97, 110, 105]⟩ : ByteArray), (⟨#[119, 119, 119, 119, 119, 119]⟩ : ByteArray), (⟨#[113, 113, 113, 113, 113]⟩ : ByteArray), (⟨#[120]⟩ : ByteArray)] : List ByteArray))).bind fun bt292 => (some (bt292.1, bt292.2.1, bt292.2.2))) else ((spec_l01Below.f s0_0 bt286.2.1 bt286.2.2 9).bind fun bt298 => (spec_l02Name.l0 k (([] : List Int)) (wrap64 (1 + bt298.1)) 0 s0_0 bt298.2.1 bt298.2.2)))
theorem spec_l02Name.mono_l : ∀ k, (∀ y0 y1 y2 y3 y4 y5, LeO (spec_l02Name.l0 k y0 y1 y2 y3 y4 y5) (spec_l02Name.l0 (k + 1) y0 y1 y2 y3 y4 y5))
 | 0 => fun _ _ _ _ _ _ r h => by simp [spec_l02Name.l0] at h
 | k + 1 => by
  have ih0 := spec_l02Name.mono_l k
  ·intro y0 y1 y2 y3 y4 y5
   unfold spec_l02Name.l0
   repeat' first
   | (with_reducible exact ih0 _ _ _ _ _ _)
   | (with_reducible exact LeO.refl _)
   | (with_reducible exact LeO.none _)
   | (with_reducible refine LeO.ite ?_ ?_)
   | (with_reducible refine LeO.bind ?_ (fun _ => ?_))
   | exact ih0 _ _ _ _ _ _
   | exact LeO.none _
   | refine LeO.ite ?_ ?_
   | refine LeO.bind ?_ (fun _ => ?_)
theorem spec_l02Name.mono : ∀ a0 a1 a2 k, LeO (spec_l02Name.f k a0 a1 a2) (spec_l02Name.f (k + 1) a0 a1 a2) := by
 intro a0 a1 a2 k
 have ih0 := spec_l02Name.mono_l k
 unfold spec_l02Name.f
 repeat' first
   | (with_reducible exact ih0 _ _ _ _ _ _)
   | (with_reducible exact LeO.refl _)
   | (with_reducible exact LeO.none _)
   | (with_reducible refine LeO.ite ?_ ?_)
   | (with_reducible refine LeO.bind ?_ (fun _ => ?_))
   | exact ih0 _ _ _ _ _ _
   | exact LeO.none _
   | refine LeO.ite ?_ ?_
   | refine LeO.bind ?_ (fun _ => ?_)
set_option maxHeartbeats 8000000 in
set_option maxRecDepth 100000 in
theorem spec_l02Name.calls (k : Nat) (g : Nat) (s0_0 : List Int) (s0_1 : Int) (s0_2 : Int) (r1 : ByteArray) (r2 : Int) (r3 : Int) (w0 w : World) (hI : IsS97 w0 w g s0_0 s0_1 s0_2) (hB : Below w0.heap.size w0 w) (h : spec_l02Name.f k s0_0 s0_1 s0_2 = some (r1, r2, r3)) :
  Calls Try.prog 112 #[.pointer (some ⟨g, 0, none⟩)] w fun e w' => e = .returned (.string r1) ∧ IsS97 w0 w' g s0_0 r2 r3 ∧ Below w0.heap.size w0 w' ∧ KeepBut w w' g none := by
 have HI0 := Aside0.mk hI
 have HK := Z (KeepBut.refl w g none)
 have HL := Aside0.mk hB.size
 clear hI
 have HW0 := Aside0.mk hB.size
 have HB := Aside0.mk hB
 clear hB
 have H : ((spec_l01Once.f s0_0 s0_1 s0_2 2).bind fun bt286 => (if bt286.1 = true then ((spec_l01Pick.f s0_0 bt286.2.1 bt286.2.2 (([(⟨#[100, 117, 112]⟩ : ByteArray), (⟨#[111, 118, 101, 114]⟩ : ByteArray), (⟨#[115, 113, 117, 97, 114, 101]⟩ : ByteArray), (⟨#[97, 33]⟩ : ByteArray), (⟨#[50, 42]⟩ : ByteArray), (⟨#[103, 111]⟩ : ByteArray), (⟨#[45, 105, 102]⟩ : ByteArray), (⟨#[59]⟩ : ByteArray), (⟨#[63]⟩ : ByteArray), (⟨#[114, 114, 114, 114, 114, 114, 114]⟩ : ByteArray), (⟨#[114, 116, 111, 101, 97, 110, 105]⟩ : ByteArray), (⟨#[119, 119, 119, 119, 119, 119]⟩ : ByteArray), (⟨#[113, 113, 113, 113, 113]⟩ : ByteArray), (⟨#[120]⟩ : ByteArray)] : List ByteArray))).bind fun bt292 => (some (bt292.1, bt292.2.1, bt292.2.2))) else ((spec_l01Below.f s0_0 bt286.2.1 bt286.2.2 9).bind fun bt298 => (spec_l02Name.l0 k (([] : List Int)) (wrap64 (1 + bt298.1)) 0 s0_0 bt298.2.1 bt298.2.2)))) = some (r1, r2, r3) := h
 clear h
 replace H := Option.bind_eq_some_iff.mp H
 obtain ⟨⟨t286, t287, t288⟩, A20, H⟩ := H
 replace H : (if t286 = true then ((spec_l01Pick.f s0_0 t287 t288 (([(⟨#[100, 117, 112]⟩ : ByteArray), (⟨#[111, 118, 101, 114]⟩ : ByteArray), (⟨#[115, 113, 117, 97, 114, 101]⟩ : ByteArray), (⟨#[97, 33]⟩ : ByteArray), (⟨#[50, 42]⟩ : ByteArray), (⟨#[103, 111]⟩ : ByteArray), (⟨#[45, 105, 102]⟩ : ByteArray), (⟨#[59]⟩ : ByteArray), (⟨#[63]⟩ : ByteArray), (⟨#[114, 114, 114, 114, 114, 114, 114]⟩ : ByteArray), (⟨#[114, 116, 111, 101, 97, 110, 105]⟩ : ByteArray), (⟨#[119, 119, 119, 119, 119, 119]⟩ : ByteArray), (⟨#[113, 113, 113, 113, 113]⟩ : ByteArray), (⟨#[120]⟩ : ByteArray)] : List ByteArray))).bind fun bt292 => (some (bt292.1, bt292.2.1, bt292.2.2))) else ((spec_l01Below.f s0_0 t287 t288 9).bind fun bt298 => (spec_l02Name.l0 k (([] : List Int)) (wrap64 (1 + bt298.1)) 0 s0_0 bt298.2.1 bt298.2.2))) = some (r1, r2, r3) := H
 have A2 := Aside0.mk A20
 clear A20
 by_cases c3 : t286 = true
 ·subst c3
  have H1 : ((spec_l01Pick.f s0_0 t287 t288 (([(⟨#[100, 117, 112]⟩ : ByteArray), (⟨#[111, 118, 101, 114]⟩ : ByteArray), (⟨#[115, 113, 117, 97, 114, 101]⟩ : ByteArray), (⟨#[97, 33]⟩ : ByteArray), (⟨#[50, 42]⟩ : ByteArray), (⟨#[103, 111]⟩ : ByteArray), (⟨#[45, 105, 102]⟩ : ByteArray), (⟨#[59]⟩ : ByteArray), (⟨#[63]⟩ : ByteArray), (⟨#[114, 114, 114, 114, 114, 114, 114]⟩ : ByteArray), (⟨#[114, 116, 111, 101, 97, 110, 105]⟩ : ByteArray), (⟨#[119, 119, 119, 119, 119, 119]⟩ : ByteArray), (⟨#[113, 113, 113, 113, 113]⟩ : ByteArray), (⟨#[120]⟩ : ByteArray)] : List ByteArray))).bind fun bt292 => (some (bt292.1, bt292.2.1, bt292.2.2))) = some (r1, r2, r3) := Z10
  clear H
  have H := H1
  clear H1
  obtain ⟨y289, hy289⟩ : ∃ y_ : List ByteArray, y_ = (([(⟨#[100, 117, 112]⟩ : ByteArray), (⟨#[111, 118, 101, 114]⟩ : ByteArray), (⟨#[115, 113, 117, 97, 114, 101]⟩ : ByteArray), (⟨#[97, 33]⟩ : ByteArray), (⟨#[50, 42]⟩ : ByteArray), (⟨#[103, 111]⟩ : ByteArray), (⟨#[45, 105, 102]⟩ : ByteArray), (⟨#[59]⟩ : ByteArray), (⟨#[63]⟩ : ByteArray), (⟨#[114, 114, 114, 114, 114, 114, 114]⟩ : ByteArray), (⟨#[114, 116, 111, 101, 97, 110, 105]⟩ : ByteArray), (⟨#[119, 119, 119, 119, 119, 119]⟩ : ByteArray), (⟨#[113, 113, 113, 113, 113]⟩ : ByteArray), (⟨#[120]⟩ : ByteArray)] : List ByteArray)) := ⟨_, rfl⟩
  replace H : ((spec_l01Pick.f s0_0 t287 t288 y289).bind fun bt292 => (some (bt292.1, bt292.2.1, bt292.2.2))) = some (r1, r2, r3) := by first | (rw [hy289]; with_reducible exact H) | (have H2_ := (Option.bind_some _ _).symm.trans H; rw [hy289]; with_reducible exact H2_) | (have H2_ := (Option.bind_some _ _).symm.trans H; with_reducible exact H2_) | with_reducible exact H | (rw [hy289]; exact H) | exact H
  have Ny289 := Aside0.mk hy289
  clear hy289
  replace H := Option.bind_eq_some_iff.mp H
  obtain ⟨⟨t292, t293, t294⟩, A40, H⟩ := H
  replace H : (some (t292, t293, t294)) = some (r1, r2, r3) := H
  have A4 := Aside0.mk A40
  clear A40
  simp only [Option.some.injEq, Prod.mk.injEq] at H
  obtain ⟨rfl, rfl, rfl⟩ := H
  go_enter Try.func112, Try.ntmps112
  go_wp2_with (first | ((with_reducible refine gate_callee (f := 87) rfl ?_); refine goesL_ (some 7) rfl rfl Try.func87 Z9 rfl #[.pointer (some ⟨g, 0, none⟩), .int .i64 2] rfl Z12 ?_; (with_reducible refine (spec_l01Once.calls g s0_0 s0_1 s0_2 2 true t287 t288 w0 _ ?side1 ?side2 A2.out).mono ?_); (case side1 => exact Z39); (case side2 => exact Z40); rintro e w5 ⟨rfl, hi, hb, hk⟩; refine ⟨_, rfl, ?_⟩; replace HK := Z (KeepBut.trans Z41 hk (.inl rfl)); replace HB := Z (hb); replace HI0 := Z (hi); (try clear hb); (try clear hb2); (try clear hk); (try clear hi)) | ((with_reducible refine gate_dst (N := 9) rfl ?_); refine Kd.R_lit Kd.string _ 9 (by rfl) (N := 9) (by rfl) (xs := ([(⟨#[100, 117, 112]⟩ : ByteArray), (⟨#[111, 118, 101, 114]⟩ : ByteArray), (⟨#[115, 113, 117, 97, 114, 101]⟩ : ByteArray), (⟨#[97, 33]⟩ : ByteArray), (⟨#[50, 42]⟩ : ByteArray), (⟨#[103, 111]⟩ : ByteArray), (⟨#[45, 105, 102]⟩ : ByteArray), (⟨#[59]⟩ : ByteArray), (⟨#[63]⟩ : ByteArray), (⟨#[114, 114, 114, 114, 114, 114, 114]⟩ : ByteArray), (⟨#[114, 116, 111, 101, 97, 110, 105]⟩ : ByteArray), (⟨#[119, 119, 119, 119, 119, 119]⟩ : ByteArray), (⟨#[113, 113, 113, 113, 113]⟩ : ByteArray), (⟨#[120]⟩ : ByteArray)] : List ByteArray)) (inner := [.string (⟨#[100, 117, 112]⟩ : ByteArray), .string (⟨#[111, 118, 101, 114]⟩ : ByteArray), .string (⟨#[115, 113, 117, 97, 114, 101]⟩ : ByteArray), .string (⟨#[97, 33]⟩ : ByteArray), .string (⟨#[50, 42]⟩ : ByteArray), .string (⟨#[103, 111]⟩ : ByteArray), .string (⟨#[45, 105, 102]⟩ : ByteArray), .string (⟨#[59]⟩ : ByteArray), .string (⟨#[63]⟩ : ByteArray), .string (⟨#[114, 114, 114, 114, 114, 114, 114]⟩ : ByteArray), .string (⟨#[114, 116, 111, 101, 97, 110, 105]⟩ : ByteArray), .string (⟨#[119, 119, 119, 119, 119, 119]⟩ : ByteArray), .string (⟨#[113, 113, 113, 113, 113]⟩ : ByteArray), .string (⟨#[120]⟩ : ByteArray)]) (ok := fun _ => True) (okp := fun _ => True) Z4 (Reps.one (show Kd.M Kd.string _ _ _ (⟨#[100, 117, 112]⟩ : ByteArray) [.string (⟨#[100, 117, 112]⟩ : ByteArray)] from rfl) (Reps.one (show Kd.M Kd.string _ _ _ (⟨#[111, 118, 101, 114]⟩ : ByteArray) [.string (⟨#[111, 118, 101, 114]⟩ : ByteArray)] from rfl) (Reps.one (show Kd.M Kd.string _ _ _ (⟨#[115, 113, 117, 97, 114, 101]⟩ : ByteArray) [.string (⟨#[115, 113, 117, 97, 114, 101]⟩ : ByteArray)] from rfl) (Reps.one (show Kd.M Kd.string _ _ _ (⟨#[97, 33]⟩ : ByteArray) [.string (⟨#[97, 33]⟩ : ByteArray)] from rfl) (Reps.one (show Kd.M Kd.string _ _ _ (⟨#[50, 42]⟩ : ByteArray) [.string (⟨#[50, 42]⟩ : ByteArray)] from rfl) (Reps.one (show Kd.M Kd.string _ _ _ (⟨#[103, 111]⟩ : ByteArray) [.string (⟨#[103, 111]⟩ : ByteArray)] from rfl) (Reps.one (show Kd.M Kd.string _ _ _ (⟨#[45, 105, 102]⟩ : ByteArray) [.string (⟨#[45, 105, 102]⟩ : ByteArray)] from rfl) (Reps.one (show Kd.M Kd.string _ _ _ (⟨#[59]⟩ : ByteArray) [.string (⟨#[59]⟩ : ByteArray)] from rfl) (Reps.one (show Kd.M Kd.string _ _ _ (⟨#[63]⟩ : ByteArray) [.string (⟨#[63]⟩ : ByteArray)] from rfl) (Reps.one (show Kd.M Kd.string _ _ _ (⟨#[114, 114, 114, 114, 114, 114, 114]⟩ : ByteArray) [.string (⟨#[114, 114, 114, 114, 114, 114, 114]⟩ : ByteArray)] from rfl) (Reps.one (show Kd.M Kd.string _ _ _ (⟨#[114, 116, 111, 101, 97, 110, 105]⟩ : ByteArray) [.string (⟨#[114, 116, 111, 101, 97, 110, 105]⟩ : ByteArray)] from rfl) (Reps.one (show Kd.M Kd.string _ _ _ (⟨#[119, 119, 119, 119, 119, 119]⟩ : ByteArray) [.string (⟨#[119, 119, 119, 119, 119, 119]⟩ : ByteArray)] from rfl) (Reps.one (show Kd.M Kd.string _ _ _ (⟨#[113, 113, 113, 113, 113]⟩ : ByteArray) [.string (⟨#[113, 113, 113, 113, 113]⟩ : ByteArray)] from rfl) (Reps.one (show Kd.M Kd.string _ _ _ (⟨#[120]⟩ : ByteArray) [.string (⟨#[120]⟩ : ByteArray)] from rfl) (Reps.none _ _))))))))))))))) (fun _ hk => hk) trivial (Below.refl _ _) (Nat.le_refl _) (by simp) ?_; intro v290 w6 ho7 hb hg_ hnew_; clear hg_ hnew_; (first | rw [← Ny289.out] at ho7 | (simp only [Int.reduceToNat] at ho7; rw [← Ny289.out] at ho7)); have HO291 := Z (Kd.R_lower ho7 (keep_size (w := w) (g := g) (row := none) Z41)); replace HK := Z (KeepBut.trans Z41 (KeepBut.of_below hb g none) (.inl rfl)); replace HB := Z (below_step Z40 hb); replace HI0 := Z (IsS97.below Z39 hb); clear hb ho7; obtain ⟨Ao8, co8, eo8⟩ := Kd.R_slice HO291.out; subst eo8) | ((with_reducible refine gate_callee (f := 105) rfl ?_); refine goesL_ (some 10) rfl rfl Try.func105 Z9 rfl #[.pointer (some ⟨g, 0, none⟩), .slice Ao8 y289.length co8] rfl Z12 ?_; (with_reducible refine (spec_l01Pick.calls g s0_0 t287 t288 _ _ y289 t292 t293 t294 w0 _ ?side1 ?side2 ?side3 ?side4 ?side5 A4.out).mono ?_); (case side1 => exact Z39); (case side2 => exact Z40); (case side3 => exact (Z13 HO291)); (case side4 => exact (Kd.R_reads' HO291.out).2.1); (case side5 => exact far_slice (IsS97.own_ne HI0.out HO291.out (by decide))); rintro e w9 ⟨rfl, hi, hb, hk⟩; refine ⟨_, rfl, ?_⟩; replace HO291 := Z (Kd.R_mono (Kd.R_keep (IsS97.apart (show IsS97 w0 _ g s0_0 t287 t288 from Z39) (Z7 HO291) (by decide)) hk (fun _ h => h.2)) (fun _ h => h.1)); replace HK := Z (KeepBut.trans Z41 hk (.inl rfl)); replace HB := Z (hb); replace HI0 := Z (hi); (try clear hb); (try clear hb2); (try clear hk); (try clear hi)))
  go_ret
  exact ⟨Z8, Z39, Z40, Z41⟩
 ·replace c3 := Bool.eq_false_iff.mpr c3
  subst c3
  have H1 : ((spec_l01Below.f s0_0 t287 t288 9).bind fun bt298 => (spec_l02Name.l0 k (([] : List Int)) (wrap64 (1 + bt298.1)) 0 s0_0 bt298.2.1 bt298.2.2)) = some (r1, r2, r3) := by rw [if_neg (show ¬ (false = true) by decide)] at H; exact H
  clear H
  have H := H1
  clear H1
  obtain ⟨y295, hy295⟩ : ∃ y_ : List Int, y_ = (([] : List Int)) := ⟨_, rfl⟩
  replace H : ((spec_l01Below.f s0_0 t287 t288 9).bind fun bt298 => (spec_l02Name.l0 k y295 (wrap64 (1 + bt298.1)) 0 s0_0 bt298.2.1 bt298.2.2)) = some (r1, r2, r3) := by first | (rw [hy295]; with_reducible exact H) | (have H2_ := (Option.bind_some _ _).symm.trans H; rw [hy295]; with_reducible exact H2_) | (have H2_ := (Option.bind_some _ _).symm.trans H; with_reducible exact H2_) | with_reducible exact H | (rw [hy295]; exact H) | exact H
  have Ny295 := Aside0.mk hy295
  clear hy295
  replace H := Option.bind_eq_some_iff.mp H
  obtain ⟨⟨t298, t299, t300⟩, A100, H⟩ := H
  replace H : (spec_l02Name.l0 k y295 (wrap64 (1 + t298)) 0 s0_0 t299 t300) = some (r1, r2, r3) := H
  have A10 := Aside0.mk A100
  clear A100
  have H' := Aside0.mk H
  clear H
  go_enter Try.func112, Try.ntmps112
  go_wp2_with (first | ((with_reducible refine gate_callee (f := 87) rfl ?_); refine goesL_ (some 7) rfl rfl Try.func87 Z9 rfl #[.pointer (some ⟨g, 0, none⟩), .int .i64 2] rfl Z12 ?_; (with_reducible refine (spec_l01Once.calls g s0_0 s0_1 s0_2 2 false t287 t288 w0 _ ?side1 ?side2 A2.out).mono ?_); (case side1 => exact Z39); (case side2 => exact Z40); rintro e w11 ⟨rfl, hi, hb, hk⟩; refine ⟨_, rfl, ?_⟩; replace HK := Z (KeepBut.trans Z41 hk (.inl rfl)); replace HB := Z (hb); replace HI0 := Z (hi); (try clear hb); (try clear hb2); (try clear hk); (try clear hi)) | ((with_reducible refine gate_dst (N := 11) rfl ?_); refine Kd.R_lit (Kd.int .u8) _ 5 (by rfl) (N := 11) (by rfl) (xs := ([] : List Int)) (inner := []) (ok := fun _ => True) (okp := fun _ => True) Z4 (Reps.none _ _) (fun _ hk => hk) trivial (Below.refl _ _) (Nat.le_refl _) (by simp) ?_; intro v296 w12 ho13 hb hg_ hnew_; clear hg_ hnew_; (first | rw [← Ny295.out] at ho13 | (simp only [Int.reduceToNat] at ho13; rw [← Ny295.out] at ho13)); have HO297 := Z (Kd.R_lower ho13 (keep_size (w := w) (g := g) (row := none) Z41)); replace HK := Z (KeepBut.trans Z41 (KeepBut.of_below hb g none) (.inl rfl)); replace HB := Z (below_step Z40 hb); replace HI0 := Z (IsS97.below Z39 hb); clear hb ho13) | ((with_reducible refine gate_callee (f := 73) rfl ?_); refine goesL_ (some 13) rfl rfl Try.func73 Z9 rfl #[.pointer (some ⟨g, 0, none⟩), .int .i64 9] rfl Z12 ?_; (with_reducible refine (spec_l01Below.calls g s0_0 t287 t288 9 t298 t299 t300 w0 _ ?side1 ?side2 A10.out).mono ?_); (case side1 => exact Z39); (case side2 => exact Z40); rintro e w14 ⟨rfl, hi, hb, hk⟩; refine ⟨_, rfl, ?_⟩; replace HO297 := Z (Kd.R_mono (Kd.R_keep (IsS97.apart (show IsS97 w0 _ g s0_0 t287 t288 from Z39) (Z7 HO297) (by decide)) hk (fun _ h => h.2)) (fun _ h => h.1)); replace HK := Z (KeepBut.trans Z41 hk (.inl rfl)); replace HB := Z (hb); replace HI0 := Z (hi); (try clear hb); (try clear hb2); (try clear hk); (try clear hi)))
  go_loopg [3, 5] k (fun kq v3 v5 w' => ∃ (x3_1 : List Int) (x5_1 : Int) (x1001_1 : Int) (x1002_1 : Int), v5 = .int .i64 x5_1 ∧ Aside0 (spec_l02Name.l0 kq x3_1 (wrap64 (1 + t298)) x5_1 s0_0 x1001_1 x1002_1 = some (r1, r2, r3)) ∧ Aside0 (kq ≤ k) ∧ Aside0 (Kd.R (Kd.int .u8) 5 w' w.heap.size (fun _ => True) v3 x3_1) ∧ Aside0 (IsS97 w0 w' g s0_0 x1001_1 x1002_1) ∧ Aside0 (KeepBut w w' g none) ∧ Aside0 (Below w0.heap.size w0 w'))
  case atStart => exact ⟨(y295), (0), (t299), (t300), Z0, H', ⟨Nat.le_refl _⟩, ⟨(Z7 HO297)⟩, ⟨Z39⟩, ⟨Z41⟩, ⟨Z40⟩⟩
  case round =>
   clear H'
   try clear c1
   try clear p2
   try clear c3
   try clear p6
   try clear c7
   try clear c8
   try clear c10
   try clear c11
   obtain ⟨x3_1, x5_1, x1001_1, x1002_1, rfl, HA, HK1, HO_3, HI0, HK, HB⟩ := hrel
   cases gk with
   | zero => exact absurd HA.out (by simp [spec_l02Name.l0])
   | succ k1 =>
    have H := HA.out
    clear HA
    simp only [spec_l02Name.l0] at H
    by_cases c15 : x5_1 < (wrap64 (1 + t298))
    ·rw [if_pos c15] at H
     have c15b0 : decide (x5_1 < (wrap64 (1 + t298))) = true := decide_eq_true c15
     clear c15
     replace H := Option.bind_eq_some_iff.mp H
     obtain ⟨⟨t301, t302, t303⟩, A160, H⟩ := H
     replace H : ((spec_LetterAt.f (wrap64 (1 + t301))).bind fun t304 => (if x3_1.length < 140737488355328 then (spec_l02Name.l0 k1 (x3_1 ++ [t304]) (wrap64 (1 + t298)) (wrap64 (x5_1 + 1)) s0_0 t302 t303) else (none))) = some (r1, r2, r3) := H
     have A16 := Aside0.mk A160
     clear A160
     replace H := Option.bind_eq_some_iff.mp H
     obtain ⟨t304, A170, H⟩ := H
     replace H : (if x3_1.length < 140737488355328 then (spec_l02Name.l0 k1 (x3_1 ++ [t304]) (wrap64 (1 + t298)) (wrap64 (x5_1 + 1)) s0_0 t302 t303) else (none)) = some (r1, r2, r3) := H
     have A17 := Aside0.mk A170
     clear A170
     by_cases c18 : x3_1.length < 140737488355328
     ·rw [if_pos c18] at H
      have LMc18 := Aside0.mk c18
      clear c18
      obtain ⟨y305, hy305⟩ : ∃ y_ : List Int, y_ = (x3_1 ++ [t304]) := ⟨_, rfl⟩
      replace H : (spec_l02Name.l0 k1 y305 (wrap64 (1 + t298)) (wrap64 (x5_1 + 1)) s0_0 t302 t303) = some (r1, r2, r3) := by first | (rw [hy305]; with_reducible exact H) | (have H2_ := (Option.bind_some _ _).symm.trans H; rw [hy305]; with_reducible exact H2_) | (have H2_ := (Option.bind_some _ _).symm.trans H; with_reducible exact H2_) | with_reducible exact H | (rw [hy305]; exact H) | exact H
      have Ny305 := Aside0.mk hy305
      clear hy305
      have H' := Aside0.mk H
      clear H
      go_wp2_with (first | ((with_reducible refine gate_callee (f := 73) rfl ?_); refine goesL_ (some 22) rfl rfl Try.func73 Z9 rfl #[.pointer (some ⟨g, 0, none⟩), .int .i64 47] rfl Z12 ?_; (with_reducible refine (spec_l01Below.calls g s0_0 x1001_1 x1002_1 47 t301 t302 t303 w0 _ ?side1 ?side2 A16.out).mono ?_); (case side1 => exact Z39); (case side2 => exact Z40); rintro e w19 ⟨rfl, hi, hb, hk⟩; refine ⟨_, rfl, ?_⟩; replace HO_3 := Z (Kd.R_mono (Kd.R_keep (IsS97.apart (show IsS97 w0 _ g s0_0 x1001_1 x1002_1 from Z39) (Z7 HO_3) (by decide)) hk (fun _ h => h.2)) (fun _ h => h.1)); replace HK := Z (KeepBut.trans Z41 hk (.inl rfl)); replace HB := Z (hb); replace HI0 := Z (hi); (try clear hb); (try clear hb2); (try clear hk); (try clear hi)) | ((with_reducible refine gate_callee (f := 118) rfl ?_); refine goesL_ (some 24) rfl rfl Try.func118 Z9 rfl #[.int .i64 (wrap64 (1 + t301))] rfl Z12 ?_; (with_reducible refine (spec_LetterAt.calls (wrap64 (1 + t301)) t304 _ A17.out).mono ?_); rintro e w' ⟨rfl, ⟨nd, rfl⟩⟩; refine ⟨_, rfl, ?_⟩) | ((with_reducible refine gate_builtin (b := .append) (xs := #[.tmp 20, .tmp 25]) rfl ?_); at_builtin; refine Kd.R_append (Kd.int .u8) w.heap.size rfl (.tmp 20) (.tmp 25) 22 5 (.int .u8 0) 1 rfl Try.underlying22 info5 rfl (by decide) (by omega) u3 x3_1 t304 [.int .u8 t304] (fun _ => True) (fun _ => False) rfl rfl ?aP (fun _ hk => hk.elim) ?aF ?aO (Below.refl _ _) ?aS ?aL ?_; (case aP => exact rfl); (case aF => exact (fun _ _ => trivial)); (case aO => exact (Z7 HO_3)); (case aS => exact (keep_size (w := w) (g := g) (row := none) Z41)); (case aL => have := LMc18.out; omega); intro v306 w20 ho hb hg hat; rw [← Ny305.out] at ho; replace HB := Z (below_weaken Z40 HL.out hb); replace HI0 := Z (IsS97.grown Z39 hg (IsS97.own_ne HI0.out HO_3.out (by decide))); replace HK := Z (KeepBut.trans Z41 (KeepBut.of_grown hg g) (Kd.R_base2 HO_3.out)); have HO307 := Z (ho); clear HO_3; clear ho hb hg hat))
      go_roundg k1
      case measure => have := HK1.out; omega
      case rel => exact ⟨(y305), (wrap64 (x5_1 + 1)), (t302), (t303), Z0, H', ⟨Z3⟩, ⟨(Z7 HO307)⟩, ⟨Z39⟩, ⟨Z41⟩, ⟨Z40⟩⟩
     ·rw [if_neg c18] at H
      exact absurd H (by simp)
    ·rw [if_neg c15] at H
     have c15b0 : decide (x5_1 < (wrap64 (1 + t298))) = false := decide_eq_false c15
     clear c15
     simp only [Option.some.injEq, Prod.mk.injEq] at H
     obtain ⟨rfl, rfl, rfl⟩ := H
     have hcv21 := own_string (P := Try.prog) Try.underlying22 Try.underlying5 Try.underlying9 (Kd.own_of_R HO_3.out)
     have hcw21 := fun nq_ : Nat => own_string (P := Try.prog) Try.underlying22 Try.underlying5 Try.underlying9 (Kd.own_of_R (Kd.R_drewN HO_3.out nq_))
     go_wp2
     go_ret
     exact ⟨Z8, Z39, Z40, Z41⟩

/-! ### spec_l04Some: function 84 -/
def spec_l04Some.f (k : Nat) (s0_0 : List Int) (s0_1 : Int) (s0_2 : Int) : Option (Int × ByteArray × Int × Bool × Int × Int × Int) := (spec_l01Below.f s0_0 s0_1 s0_2 8).bind fun bt309 => (if bt309.1 = 0 then ((spec_l04Int.f s0_0 bt309.2.1 bt309.2.2).bind fun bt312 => ((spec_l01Once.f s0_0 bt312.2.1 bt312.2.2 3).bind fun bt315 => (some (7, (⟨#[]⟩ : ByteArray), bt312.1, bt315.1, 0, bt315.2.1, bt315.2.2)))) else (if bt309.1 = 1 then ((spec_l04Int.f s0_0 bt309.2.1 bt309.2.2).bind fun bt318 => ((spec_l01Once.f s0_0 bt318.2.1 bt318.2.2 3).bind fun bt321 => (some (8, (⟨#[]⟩ : ByteArray), bt318.1, bt321.1, 0, bt321.2.1, bt321.2.2)))) else (if bt309.1 = 2 then ((spec_l01Pick.f s0_0 bt309.2.1 bt309.2.2 (([(⟨#[120]⟩ : ByteArray), (⟨#[97, 116]⟩ : ByteArray), (⟨#[113, 113, 113, 113]⟩ : ByteArray), (⟨#[116, 101, 110]⟩ : ByteArray)] : List ByteArray))).bind fun bt327 => ((spec_l04Int.f s0_0 bt327.2.1 bt327.2.2).bind fun bt330 => (some (9, bt327.1, bt330.1, false, 0, bt330.2.1, bt330.2.2)))) else ((spec_l01Below.f s0_0 bt309.2.1 bt309.2.2 6).bind fun bt333 => ((spec_l02Name.f k s0_0 bt333.2.1 bt333.2.2).bind fun bt336 => (some (wrap64 (1 + bt333.1), bt336.1, 0, false, 0, bt336.2.1, bt336.2.2)))))))
theorem spec_l04Some.mono : ∀ a0 a1 a2 k, LeO (spec_l04Some.f k a0 a1 a2) (spec_l04Some.f (k + 1) a0 a1 a2) := by
 intro a0 a1 a2 k
 unfold spec_l04Some.f
 repeat' first
   | (with_reducible exact spec_l02Name.mono _ _ _ _)
   | (with_reducible exact LeO.refl _)
   | (with_reducible exact LeO.none _)
   | (with_reducible refine LeO.ite ?_ ?_)
   | (with_reducible refine LeO.bind ?_ (fun _ => ?_))
   | exact spec_l02Name.mono _ _ _ _
   | exact LeO.none _
   | refine LeO.ite ?_ ?_
   | refine LeO.bind ?_ (fun _ => ?_)
set_option maxHeartbeats 8000000 in
set_option maxRecDepth 100000 in
theorem spec_l04Some.calls (k : Nat) (g : Nat) (s0_0 : List Int) (s0_1 : Int) (s0_2 : Int) (r1 : Int) (r2 : ByteArray) (r3 : Int) (r4 : Bool) (r5 : Int) (r6 : Int) (r7 : Int) (w0 w : World) (hI : IsS97 w0 w g s0_0 s0_1 s0_2) (hB : Below w0.heap.size w0 w) (h : spec_l04Some.f k s0_0 s0_1 s0_2 = some (r1, r2, r3, r4, r5, r6, r7)) :
  Calls Try.prog 84 #[.pointer (some ⟨g, 0, none⟩)] w fun e w' => e = .returned (.agg #[.int .i64 r1, .string r2, .int .i32 r3, .bool r4, .int .u32 r5]) ∧ IsS97 w0 w' g s0_0 r6 r7 ∧ Below w0.heap.size w0 w' ∧ KeepBut w w' g none := by
 have hu51 := Try.underlying51
 have HI0 := Aside0.mk hI
 have HK := Z (KeepBut.refl w g none)
 have HL := Aside0.mk hB.size
 clear hI
 have HW0 := Aside0.mk hB.size
 have HB := Aside0.mk hB
 clear hB
 have H : ((spec_l01Below.f s0_0 s0_1 s0_2 8).bind fun bt309 => (if bt309.1 = 0 then ((spec_l04Int.f s0_0 bt309.2.1 bt309.2.2).bind fun bt312 => ((spec_l01Once.f s0_0 bt312.2.1 bt312.2.2 3).bind fun bt315 => (some (7, (⟨#[]⟩ : ByteArray), bt312.1, bt315.1, 0, bt315.2.1, bt315.2.2)))) else (if bt309.1 = 1 then ((spec_l04Int.f s0_0 bt309.2.1 bt309.2.2).bind fun bt318 => ((spec_l01Once.f s0_0 bt318.2.1 bt318.2.2 3).bind fun bt321 => (some (8, (⟨#[]⟩ : ByteArray), bt318.1, bt321.1, 0, bt321.2.1, bt321.2.2)))) else (if bt309.1 = 2 then ((spec_l01Pick.f s0_0 bt309.2.1 bt309.2.2 (([(⟨#[120]⟩ : ByteArray), (⟨#[97, 116]⟩ : ByteArray), (⟨#[113, 113, 113, 113]⟩ : ByteArray), (⟨#[116, 101, 110]⟩ : ByteArray)] : List ByteArray))).bind fun bt327 => ((spec_l04Int.f s0_0 bt327.2.1 bt327.2.2).bind fun bt330 => (some (9, bt327.1, bt330.1, false, 0, bt330.2.1, bt330.2.2)))) else ((spec_l01Below.f s0_0 bt309.2.1 bt309.2.2 6).bind fun bt333 => ((spec_l02Name.f k s0_0 bt333.2.1 bt333.2.2).bind fun bt336 => (some (wrap64 (1 + bt333.1), bt336.1, 0, false, 0, bt336.2.1, bt336.2.2)))))))) = some (r1, r2, r3, r4, r5, r6, r7) := h
 clear h
 replace H := Option.bind_eq_some_iff.mp H
 obtain ⟨⟨t309, t310, t311⟩, A20, H⟩ := H
 replace H : (if t309 = 0 then ((spec_l04Int.f s0_0 t310 t311).bind fun bt312 => ((spec_l01Once.f s0_0 bt312.2.1 bt312.2.2 3).bind fun bt315 => (some (7, (⟨#[]⟩ : ByteArray), bt312.1, bt315.1, 0, bt315.2.1, bt315.2.2)))) else (if t309 = 1 then ((spec_l04Int.f s0_0 t310 t311).bind fun bt318 => ((spec_l01Once.f s0_0 bt318.2.1 bt318.2.2 3).bind fun bt321 => (some (8, (⟨#[]⟩ : ByteArray), bt318.1, bt321.1, 0, bt321.2.1, bt321.2.2)))) else (if t309 = 2 then ((spec_l01Pick.f s0_0 t310 t311 (([(⟨#[120]⟩ : ByteArray), (⟨#[97, 116]⟩ : ByteArray), (⟨#[113, 113, 113, 113]⟩ : ByteArray), (⟨#[116, 101, 110]⟩ : ByteArray)] : List ByteArray))).bind fun bt327 => ((spec_l04Int.f s0_0 bt327.2.1 bt327.2.2).bind fun bt330 => (some (9, bt327.1, bt330.1, false, 0, bt330.2.1, bt330.2.2)))) else ((spec_l01Below.f s0_0 t310 t311 6).bind fun bt333 => ((spec_l02Name.f k s0_0 bt333.2.1 bt333.2.2).bind fun bt336 => (some (wrap64 (1 + bt333.1), bt336.1, 0, false, 0, bt336.2.1, bt336.2.2))))))) = some (r1, r2, r3, r4, r5, r6, r7) := H
 have A2 := Aside0.mk A20
 clear A20
 by_cases c3 : t309 = 0
 ·rw [if_pos c3] at H
  have c3b0 : (t309 == 0) = true := beq_iff_eq.mpr c3
  have c3b1 : (t309 != 0) = false := bne_eq_false_iff_eq.mpr c3
  clear c3
  replace H := Option.bind_eq_some_iff.mp H
  obtain ⟨⟨t312, t313, t314⟩, A40, H⟩ := H
  replace H : ((spec_l01Once.f s0_0 t313 t314 3).bind fun bt315 => (some (7, (⟨#[]⟩ : ByteArray), t312, bt315.1, 0, bt315.2.1, bt315.2.2))) = some (r1, r2, r3, r4, r5, r6, r7) := H
  have A4 := Aside0.mk A40
  clear A40
  replace H := Option.bind_eq_some_iff.mp H
  obtain ⟨⟨t315, t316, t317⟩, A50, H⟩ := H
  replace H : (some (7, (⟨#[]⟩ : ByteArray), t312, t315, 0, t316, t317)) = some (r1, r2, r3, r4, r5, r6, r7) := H
  have A5 := Aside0.mk A50
  clear A50
  simp only [Option.some.injEq, Prod.mk.injEq] at H
  obtain ⟨rfl, rfl, rfl, rfl, rfl, rfl, rfl⟩ := H
  go_enter Try.func84, Try.ntmps84
  go_wp2_with (first | ((with_reducible refine gate_dst (N := 2) rfl ?_); refine box_event (by rfl) (N := 2) (by rfl) (cs := #[.int .i64 0, .string (⟨#[]⟩ : ByteArray), .int .i32 0, .bool false, .int .u32 0]) (t := 51) Z4 ?_; intro gb308 hg w6 hbox hb; replace HB := Z (below_step Z40 hb); have BK308 := Z (hbox); have GW308 := Z ((Z56 : w.heap.size ≤ gb308)); have GE308 := Z ((Nat.le_trans HW0.out (Z56 : w.heap.size ≤ gb308) : w0.heap.size ≤ gb308)); replace HK := Z (KeepBut.trans Z41 (KeepBut.of_below hb g none) (.inl rfl)); have NB0_308 := Z ((Z57 : g ≠ gb308)); have NB308_0 := Z ((Z58 : gb308 ≠ g)); replace HI0 := Z (IsS97.below Z39 hb); clear hb hbox hg) | ((with_reducible refine gate_callee (f := 73) rfl ?_); refine goesL_ (some 4) rfl rfl Try.func73 Z9 rfl #[.pointer (some ⟨g, 0, none⟩), .int .i64 8] rfl Z12 ?_; (with_reducible refine (spec_l01Below.calls g s0_0 s0_1 s0_2 8 t309 t310 t311 w0 _ ?side1 ?side2 A2.out).mono ?_); (case side1 => exact Z39); (case side2 => exact Z40); rintro e w7 ⟨rfl, hi, hb, hk⟩; refine ⟨_, rfl, ?_⟩; replace BK308 := Z (KeepBut.blk hk (g' := gb308) (o := .cells #[.int .i64 0, .string (⟨#[]⟩ : ByteArray), .int .i32 0, .bool false, .int .u32 0] 51 (0, 0)) (Z11 BK308) NB308_0.out (by simp)); replace HK := Z (KeepBut.trans Z41 hk (.inl rfl)); replace HB := Z (hb); replace HI0 := Z (hi); (try clear hb); (try clear hb2); (try clear hk); (try clear hi)) | ((with_reducible refine gate_callee (f := 111) rfl ?_); refine goesL_ (some 8) rfl rfl Try.func111 Z9 rfl #[.pointer (some ⟨g, 0, none⟩)] rfl Z12 ?_; (with_reducible refine (spec_l04Int.calls g s0_0 t310 t311 t312 t313 t314 w0 _ ?side1 ?side2 A4.out).mono ?_); (case side1 => exact Z39); (case side2 => exact Z40); rintro e w8 ⟨rfl, hi, hb, hk⟩; refine ⟨_, rfl, ?_⟩; replace BK308 := Z (KeepBut.blk hk (g' := gb308) (o := .cells #[.int .i64 0, .string (⟨#[]⟩ : ByteArray), .int .i32 0, .bool false, .int .u32 0] 51 (0, 0)) (Z11 BK308) NB308_0.out (by simp)); replace HK := Z (KeepBut.trans Z41 hk (.inl rfl)); replace HB := Z (hb); replace HI0 := Z (hi); (try clear hb); (try clear hb2); (try clear hk); (try clear hi)) | ((with_reducible refine gate_callee (f := 87) rfl ?_); refine goesL_ (some 10) rfl rfl Try.func87 Z9 rfl #[.pointer (some ⟨g, 0, none⟩), .int .i64 3] rfl Z12 ?_; (with_reducible refine (spec_l01Once.calls g s0_0 t313 t314 3 t315 t316 t317 w0 _ ?side1 ?side2 A5.out).mono ?_); (case side1 => exact Z39); (case side2 => exact Z40); rintro e w9 ⟨rfl, hi, hb, hk⟩; refine ⟨_, rfl, ?_⟩; replace BK308 := Z (KeepBut.blk hk (g' := gb308) (o := .cells #[.int .i64 0, .string (⟨#[]⟩ : ByteArray), .int .i32 0, .bool false, .int .u32 0] 51 (0, 0)) (Z11 BK308) NB308_0.out (by simp)); replace HK := Z (KeepBut.trans Z41 hk (.inl rfl)); replace HB := Z (hb); replace HI0 := Z (hi); (try clear hb); (try clear hb2); (try clear hk); (try clear hi); have hnb10 := NB308_0.out; have hnc10 := NB0_308.out; have hcz11_0 : w9.cell? ⟨gb308, 0, none⟩ = some (.int .i64 0) := (blk_cell BK308.out 0).trans rfl; have hcz11_1 : w9.cell? ⟨gb308, 1, none⟩ = some (.string (⟨#[]⟩ : ByteArray)) := (blk_cell BK308.out 1).trans rfl; have hcz11_2 : w9.cell? ⟨gb308, 2, none⟩ = some (.int .i32 0) := (blk_cell BK308.out 2).trans rfl; have hcz11_3 : w9.cell? ⟨gb308, 3, none⟩ = some (.bool false) := (blk_cell BK308.out 3).trans rfl; have hcz11_4 : w9.cell? ⟨gb308, 4, none⟩ = some (.int .u32 0) := (blk_cell BK308.out 4).trans rfl; have hfz11_0 := blk_frozen BK308.out 0; have hfz11_1 := blk_frozen BK308.out 1; have hfz11_2 := blk_frozen BK308.out 2; have hfz11_3 := blk_frozen BK308.out 3; have hfz11_4 := blk_frozen BK308.out 4))
  refine bodyPost_ret (results_cell_row rfl _ _ gb308 51 #[.int .i64 7, .string (⟨#[]⟩ : ByteArray), .int .i32 t312, .bool t315, .int .u32 0] (0, 0) _ rfl (by (with_reducible repeat (first | refine blk_drewN ?_ _ | refine blk_drew ?_ | refine blk_alloc ?_ _)); refine blk_put (cs := #[.int .i64 7, .string (⟨#[]⟩ : ByteArray), .int .i32 t312, .bool t315, .int .u32 0]) ?_ 4 _ rfl; (with_reducible repeat (first | refine blk_drewN ?_ _ | refine blk_drew ?_ | refine blk_alloc ?_ _)); refine blk_put (cs := #[.int .i64 7, .string (⟨#[]⟩ : ByteArray), .int .i32 t312, .bool false, .int .u32 0]) ?_ 3 _ rfl; (with_reducible repeat (first | refine blk_drewN ?_ _ | refine blk_drew ?_ | refine blk_alloc ?_ _)); refine blk_put (cs := #[.int .i64 7, .string (⟨#[]⟩ : ByteArray), .int .i32 0, .bool false, .int .u32 0]) ?_ 2 _ rfl; (with_reducible repeat (first | refine blk_drewN ?_ _ | refine blk_drew ?_ | refine blk_alloc ?_ _)); refine blk_put (cs := #[.int .i64 7, .string (⟨#[]⟩ : ByteArray), .int .i32 0, .bool false, .int .u32 0]) ?_ 1 _ rfl; (with_reducible repeat (first | refine blk_drewN ?_ _ | refine blk_drew ?_ | refine blk_alloc ?_ _)); refine blk_put (cs := #[.int .i64 0, .string (⟨#[]⟩ : ByteArray), .int .i32 0, .bool false, .int .u32 0]) ?_ 0 _ rfl; (with_reducible repeat (first | refine blk_drewN ?_ _ | refine blk_drew ?_ | refine blk_alloc ?_ _)); exact BK308.out) Try.underlying51 rfl Z9) rfl ?_
  exact ⟨Z8, Z39, Z40, Z41⟩
 ·rw [if_neg c3] at H
  have c3b0 : (t309 == 0) = false := beq_eq_false_iff_ne.mpr c3
  have c3b1 : (t309 != 0) = true := bne_iff_ne.mpr c3
  by_cases c12 : t309 = 1
  ·rw [if_pos c12] at H
   have c12b0 : (t309 == 1) = true := beq_iff_eq.mpr c12
   have c12b1 : (t309 != 1) = false := bne_eq_false_iff_eq.mpr c12
   clear c12
   replace H := Option.bind_eq_some_iff.mp H
   obtain ⟨⟨t318, t319, t320⟩, A130, H⟩ := H
   replace H : ((spec_l01Once.f s0_0 t319 t320 3).bind fun bt321 => (some (8, (⟨#[]⟩ : ByteArray), t318, bt321.1, 0, bt321.2.1, bt321.2.2))) = some (r1, r2, r3, r4, r5, r6, r7) := H
   have A13 := Aside0.mk A130
   clear A130
   replace H := Option.bind_eq_some_iff.mp H
   obtain ⟨⟨t321, t322, t323⟩, A140, H⟩ := H
   replace H : (some (8, (⟨#[]⟩ : ByteArray), t318, t321, 0, t322, t323)) = some (r1, r2, r3, r4, r5, r6, r7) := H
   have A14 := Aside0.mk A140
   clear A140
   simp only [Option.some.injEq, Prod.mk.injEq] at H
   obtain ⟨rfl, rfl, rfl, rfl, rfl, rfl, rfl⟩ := H
   go_enter Try.func84, Try.ntmps84
   go_wp2_with (first | ((with_reducible refine gate_dst (N := 2) rfl ?_); refine box_event (by rfl) (N := 2) (by rfl) (cs := #[.int .i64 0, .string (⟨#[]⟩ : ByteArray), .int .i32 0, .bool false, .int .u32 0]) (t := 51) Z4 ?_; intro gb308 hg w15 hbox hb; replace HB := Z (below_step Z40 hb); have BK308 := Z (hbox); have GW308 := Z ((Z56 : w.heap.size ≤ gb308)); have GE308 := Z ((Nat.le_trans HW0.out (Z56 : w.heap.size ≤ gb308) : w0.heap.size ≤ gb308)); replace HK := Z (KeepBut.trans Z41 (KeepBut.of_below hb g none) (.inl rfl)); have NB0_308 := Z ((Z57 : g ≠ gb308)); have NB308_0 := Z ((Z58 : gb308 ≠ g)); replace HI0 := Z (IsS97.below Z39 hb); clear hb hbox hg) | ((with_reducible refine gate_callee (f := 73) rfl ?_); refine goesL_ (some 4) rfl rfl Try.func73 Z9 rfl #[.pointer (some ⟨g, 0, none⟩), .int .i64 8] rfl Z12 ?_; (with_reducible refine (spec_l01Below.calls g s0_0 s0_1 s0_2 8 t309 t310 t311 w0 _ ?side1 ?side2 A2.out).mono ?_); (case side1 => exact Z39); (case side2 => exact Z40); rintro e w16 ⟨rfl, hi, hb, hk⟩; refine ⟨_, rfl, ?_⟩; replace BK308 := Z (KeepBut.blk hk (g' := gb308) (o := .cells #[.int .i64 0, .string (⟨#[]⟩ : ByteArray), .int .i32 0, .bool false, .int .u32 0] 51 (0, 0)) (Z11 BK308) NB308_0.out (by simp)); replace HK := Z (KeepBut.trans Z41 hk (.inl rfl)); replace HB := Z (hb); replace HI0 := Z (hi); (try clear hb); (try clear hb2); (try clear hk); (try clear hi)) | ((with_reducible refine gate_callee (f := 111) rfl ?_); refine goesL_ (some 15) rfl rfl Try.func111 Z9 rfl #[.pointer (some ⟨g, 0, none⟩)] rfl Z12 ?_; (with_reducible refine (spec_l04Int.calls g s0_0 t310 t311 t318 t319 t320 w0 _ ?side1 ?side2 A13.out).mono ?_); (case side1 => exact Z39); (case side2 => exact Z40); rintro e w17 ⟨rfl, hi, hb, hk⟩; refine ⟨_, rfl, ?_⟩; replace BK308 := Z (KeepBut.blk hk (g' := gb308) (o := .cells #[.int .i64 0, .string (⟨#[]⟩ : ByteArray), .int .i32 0, .bool false, .int .u32 0] 51 (0, 0)) (Z11 BK308) NB308_0.out (by simp)); replace HK := Z (KeepBut.trans Z41 hk (.inl rfl)); replace HB := Z (hb); replace HI0 := Z (hi); (try clear hb); (try clear hb2); (try clear hk); (try clear hi)) | ((with_reducible refine gate_callee (f := 87) rfl ?_); refine goesL_ (some 17) rfl rfl Try.func87 Z9 rfl #[.pointer (some ⟨g, 0, none⟩), .int .i64 3] rfl Z12 ?_; (with_reducible refine (spec_l01Once.calls g s0_0 t319 t320 3 t321 t322 t323 w0 _ ?side1 ?side2 A14.out).mono ?_); (case side1 => exact Z39); (case side2 => exact Z40); rintro e w18 ⟨rfl, hi, hb, hk⟩; refine ⟨_, rfl, ?_⟩; replace BK308 := Z (KeepBut.blk hk (g' := gb308) (o := .cells #[.int .i64 0, .string (⟨#[]⟩ : ByteArray), .int .i32 0, .bool false, .int .u32 0] 51 (0, 0)) (Z11 BK308) NB308_0.out (by simp)); replace HK := Z (KeepBut.trans Z41 hk (.inl rfl)); replace HB := Z (hb); replace HI0 := Z (hi); (try clear hb); (try clear hb2); (try clear hk); (try clear hi); have hnb19 := NB308_0.out; have hnc19 := NB0_308.out; have hcz20_0 : w18.cell? ⟨gb308, 0, none⟩ = some (.int .i64 0) := (blk_cell BK308.out 0).trans rfl; have hcz20_1 : w18.cell? ⟨gb308, 1, none⟩ = some (.string (⟨#[]⟩ : ByteArray)) := (blk_cell BK308.out 1).trans rfl; have hcz20_2 : w18.cell? ⟨gb308, 2, none⟩ = some (.int .i32 0) := (blk_cell BK308.out 2).trans rfl; have hcz20_3 : w18.cell? ⟨gb308, 3, none⟩ = some (.bool false) := (blk_cell BK308.out 3).trans rfl; have hcz20_4 : w18.cell? ⟨gb308, 4, none⟩ = some (.int .u32 0) := (blk_cell BK308.out 4).trans rfl; have hfz20_0 := blk_frozen BK308.out 0; have hfz20_1 := blk_frozen BK308.out 1; have hfz20_2 := blk_frozen BK308.out 2; have hfz20_3 := blk_frozen BK308.out 3; have hfz20_4 := blk_frozen BK308.out 4))
   refine bodyPost_ret (results_cell_row rfl _ _ gb308 51 #[.int .i64 8, .string (⟨#[]⟩ : ByteArray), .int .i32 t318, .bool t321, .int .u32 0] (0, 0) _ rfl (by (with_reducible repeat (first | refine blk_drewN ?_ _ | refine blk_drew ?_ | refine blk_alloc ?_ _)); refine blk_put (cs := #[.int .i64 8, .string (⟨#[]⟩ : ByteArray), .int .i32 t318, .bool t321, .int .u32 0]) ?_ 4 _ rfl; (with_reducible repeat (first | refine blk_drewN ?_ _ | refine blk_drew ?_ | refine blk_alloc ?_ _)); refine blk_put (cs := #[.int .i64 8, .string (⟨#[]⟩ : ByteArray), .int .i32 t318, .bool false, .int .u32 0]) ?_ 3 _ rfl; (with_reducible repeat (first | refine blk_drewN ?_ _ | refine blk_drew ?_ | refine blk_alloc ?_ _)); refine blk_put (cs := #[.int .i64 8, .string (⟨#[]⟩ : ByteArray), .int .i32 0, .bool false, .int .u32 0]) ?_ 2 _ rfl; (with_reducible repeat (first | refine blk_drewN ?_ _ | refine blk_drew ?_ | refine blk_alloc ?_ _)); refine blk_put (cs := #[.int .i64 8, .string (⟨#[]⟩ : ByteArray), .int .i32 0, .bool false, .int .u32 0]) ?_ 1 _ rfl; (with_reducible repeat (first | refine blk_drewN ?_ _ | refine blk_drew ?_ | refine blk_alloc ?_ _)); refine blk_put (cs := #[.int .i64 0, .string (⟨#[]⟩ : ByteArray), .int .i32 0, .bool false, .int .u32 0]) ?_ 0 _ rfl; (with_reducible repeat (first | refine blk_drewN ?_ _ | refine blk_drew ?_ | refine blk_alloc ?_ _)); exact BK308.out) Try.underlying51 rfl Z9) rfl ?_
   exact ⟨Z8, Z39, Z40, Z41⟩
  ·rw [if_neg c12] at H
   have c12b0 : (t309 == 1) = false := beq_eq_false_iff_ne.mpr c12
   have c12b1 : (t309 != 1) = true := bne_iff_ne.mpr c12
   by_cases c21 : t309 = 2
   ·rw [if_pos c21] at H
    have c21b0 : (t309 == 2) = true := beq_iff_eq.mpr c21
    have c21b1 : (t309 != 2) = false := bne_eq_false_iff_eq.mpr c21
    clear c21
    obtain ⟨y324, hy324⟩ : ∃ y_ : List ByteArray, y_ = (([(⟨#[120]⟩ : ByteArray), (⟨#[97, 116]⟩ : ByteArray), (⟨#[113, 113, 113, 113]⟩ : ByteArray), (⟨#[116, 101, 110]⟩ : ByteArray)] : List ByteArray)) := ⟨_, rfl⟩
    replace H : ((spec_l01Pick.f s0_0 t310 t311 y324).bind fun bt327 => ((spec_l04Int.f s0_0 bt327.2.1 bt327.2.2).bind fun bt330 => (some (9, bt327.1, bt330.1, false, 0, bt330.2.1, bt330.2.2)))) = some (r1, r2, r3, r4, r5, r6, r7) := by first | (rw [hy324]; with_reducible exact H) | (have H2_ := (Option.bind_some _ _).symm.trans H; rw [hy324]; with_reducible exact H2_) | (have H2_ := (Option.bind_some _ _).symm.trans H; with_reducible exact H2_) | with_reducible exact H | (rw [hy324]; exact H) | exact H
    have Ny324 := Aside0.mk hy324
    clear hy324
    replace H := Option.bind_eq_some_iff.mp H
    obtain ⟨⟨t327, t328, t329⟩, A220, H⟩ := H
    replace H : ((spec_l04Int.f s0_0 t328 t329).bind fun bt330 => (some (9, t327, bt330.1, false, 0, bt330.2.1, bt330.2.2))) = some (r1, r2, r3, r4, r5, r6, r7) := H
    have A22 := Aside0.mk A220
    clear A220
    replace H := Option.bind_eq_some_iff.mp H
    obtain ⟨⟨t330, t331, t332⟩, A230, H⟩ := H
    replace H : (some (9, t327, t330, false, 0, t331, t332)) = some (r1, r2, r3, r4, r5, r6, r7) := H
    have A23 := Aside0.mk A230
    clear A230
    simp only [Option.some.injEq, Prod.mk.injEq] at H
    obtain ⟨rfl, rfl, rfl, rfl, rfl, rfl, rfl⟩ := H
    go_enter Try.func84, Try.ntmps84
    go_wp2_with (first | ((with_reducible refine gate_dst (N := 2) rfl ?_); refine box_event (by rfl) (N := 2) (by rfl) (cs := #[.int .i64 0, .string (⟨#[]⟩ : ByteArray), .int .i32 0, .bool false, .int .u32 0]) (t := 51) Z4 ?_; intro gb308 hg w24 hbox hb; replace HB := Z (below_step Z40 hb); have BK308 := Z (hbox); have GW308 := Z ((Z56 : w.heap.size ≤ gb308)); have GE308 := Z ((Nat.le_trans HW0.out (Z56 : w.heap.size ≤ gb308) : w0.heap.size ≤ gb308)); replace HK := Z (KeepBut.trans Z41 (KeepBut.of_below hb g none) (.inl rfl)); have NB0_308 := Z ((Z57 : g ≠ gb308)); have NB308_0 := Z ((Z58 : gb308 ≠ g)); replace HI0 := Z (IsS97.below Z39 hb); clear hb hbox hg) | ((with_reducible refine gate_callee (f := 73) rfl ?_); refine goesL_ (some 4) rfl rfl Try.func73 Z9 rfl #[.pointer (some ⟨g, 0, none⟩), .int .i64 8] rfl Z12 ?_; (with_reducible refine (spec_l01Below.calls g s0_0 s0_1 s0_2 8 t309 t310 t311 w0 _ ?side1 ?side2 A2.out).mono ?_); (case side1 => exact Z39); (case side2 => exact Z40); rintro e w25 ⟨rfl, hi, hb, hk⟩; refine ⟨_, rfl, ?_⟩; replace BK308 := Z (KeepBut.blk hk (g' := gb308) (o := .cells #[.int .i64 0, .string (⟨#[]⟩ : ByteArray), .int .i32 0, .bool false, .int .u32 0] 51 (0, 0)) (Z11 BK308) NB308_0.out (by simp)); replace HK := Z (KeepBut.trans Z41 hk (.inl rfl)); replace HB := Z (hb); replace HI0 := Z (hi); (try clear hb); (try clear hb2); (try clear hk); (try clear hi)) | ((with_reducible refine gate_dst (N := 22) rfl ?_); refine Kd.R_lit Kd.string _ 9 (by rfl) (N := 22) (by rfl) (xs := ([(⟨#[120]⟩ : ByteArray), (⟨#[97, 116]⟩ : ByteArray), (⟨#[113, 113, 113, 113]⟩ : ByteArray), (⟨#[116, 101, 110]⟩ : ByteArray)] : List ByteArray)) (inner := [.string (⟨#[120]⟩ : ByteArray), .string (⟨#[97, 116]⟩ : ByteArray), .string (⟨#[113, 113, 113, 113]⟩ : ByteArray), .string (⟨#[116, 101, 110]⟩ : ByteArray)]) (ok := fun _ => True) (okp := fun _ => True) Z4 (Reps.one (show Kd.M Kd.string _ _ _ (⟨#[120]⟩ : ByteArray) [.string (⟨#[120]⟩ : ByteArray)] from rfl) (Reps.one (show Kd.M Kd.string _ _ _ (⟨#[97, 116]⟩ : ByteArray) [.string (⟨#[97, 116]⟩ : ByteArray)] from rfl) (Reps.one (show Kd.M Kd.string _ _ _ (⟨#[113, 113, 113, 113]⟩ : ByteArray) [.string (⟨#[113, 113, 113, 113]⟩ : ByteArray)] from rfl) (Reps.one (show Kd.M Kd.string _ _ _ (⟨#[116, 101, 110]⟩ : ByteArray) [.string (⟨#[116, 101, 110]⟩ : ByteArray)] from rfl) (Reps.none _ _))))) (fun _ hk => hk) trivial (Below.refl _ _) (Nat.le_refl _) (by simp) ?_; intro v325 w26 ho27 hb hg_ hnew_; clear hg_ hnew_; (first | rw [← Ny324.out] at ho27 | (simp only [Int.reduceToNat] at ho27; rw [← Ny324.out] at ho27)); have HO326 := Z (Kd.R_lower ho27 (keep_size (w := w) (g := g) (row := none) Z41)); replace BK308 := Z (blk_below (g := gb308) (o := .cells #[.int .i64 0, .string (⟨#[]⟩ : ByteArray), .int .i32 0, .bool false, .int .u32 0] 51 (0, 0)) (Z11 BK308) hb); replace HK := Z (KeepBut.trans Z41 (KeepBut.of_below hb g none) (.inl rfl)); replace HB := Z (below_step Z40 hb); replace HI0 := Z (IsS97.below Z39 hb); clear hb ho27; obtain ⟨Ao28, co28, eo28⟩ := Kd.R_slice HO326.out; subst eo28) | ((with_reducible refine gate_callee (f := 105) rfl ?_); refine goesL_ (some 23) rfl rfl Try.func105 Z9 rfl #[.pointer (some ⟨g, 0, none⟩), .slice Ao28 y324.length co28] rfl Z12 ?_; (with_reducible refine (spec_l01Pick.calls g s0_0 t310 t311 _ _ y324 t327 t328 t329 w0 _ ?side1 ?side2 ?side3 ?side4 ?side5 A22.out).mono ?_); (case side1 => exact Z39); (case side2 => exact Z40); (case side3 => exact (Z13 HO326)); (case side4 => exact (Kd.R_reads' HO326.out).2.1); (case side5 => exact far_slice (IsS97.own_ne HI0.out HO326.out (by decide))); rintro e w29 ⟨rfl, hi, hb, hk⟩; refine ⟨_, rfl, ?_⟩; replace BK308 := Z (KeepBut.blk hk (g' := gb308) (o := .cells #[.int .i64 0, .string (⟨#[]⟩ : ByteArray), .int .i32 0, .bool false, .int .u32 0] 51 (0, 0)) (Z11 BK308) NB308_0.out (by simp)); replace HO326 := Z (Kd.R_mono (Kd.R_keep (IsS97.apart (show IsS97 w0 _ g s0_0 t310 t311 from Z39) (Z7 HO326) (by decide)) hk (fun _ h => h.2)) (fun _ h => h.1)); replace HK := Z (KeepBut.trans Z41 hk (.inl rfl)); replace HB := Z (hb); replace HI0 := Z (hi); (try clear hb); (try clear hb2); (try clear hk); (try clear hi)) | ((with_reducible refine gate_callee (f := 111) rfl ?_); refine goesL_ (some 25) rfl rfl Try.func111 Z9 rfl #[.pointer (some ⟨g, 0, none⟩)] rfl Z12 ?_; (with_reducible refine (spec_l04Int.calls g s0_0 t328 t329 t330 t331 t332 w0 _ ?side1 ?side2 A23.out).mono ?_); (case side1 => exact Z39); (case side2 => exact Z40); rintro e w30 ⟨rfl, hi, hb, hk⟩; refine ⟨_, rfl, ?_⟩; replace BK308 := Z (KeepBut.blk hk (g' := gb308) (o := .cells #[.int .i64 0, .string (⟨#[]⟩ : ByteArray), .int .i32 0, .bool false, .int .u32 0] 51 (0, 0)) (Z11 BK308) NB308_0.out (by simp)); replace HO326 := Z (Kd.R_mono (Kd.R_keep (IsS97.apart (show IsS97 w0 _ g s0_0 t328 t329 from Z39) (Z7 HO326) (by decide)) hk (fun _ h => h.2)) (fun _ h => h.1)); replace HK := Z (KeepBut.trans Z41 hk (.inl rfl)); replace HB := Z (hb); replace HI0 := Z (hi); (try clear hb); (try clear hb2); (try clear hk); (try clear hi); have hnb31 := NB308_0.out; have hnc31 := NB0_308.out; have hcz32_0 : w30.cell? ⟨gb308, 0, none⟩ = some (.int .i64 0) := (blk_cell BK308.out 0).trans rfl; have hcz32_1 : w30.cell? ⟨gb308, 1, none⟩ = some (.string (⟨#[]⟩ : ByteArray)) := (blk_cell BK308.out 1).trans rfl; have hcz32_2 : w30.cell? ⟨gb308, 2, none⟩ = some (.int .i32 0) := (blk_cell BK308.out 2).trans rfl; have hcz32_3 : w30.cell? ⟨gb308, 3, none⟩ = some (.bool false) := (blk_cell BK308.out 3).trans rfl; have hcz32_4 : w30.cell? ⟨gb308, 4, none⟩ = some (.int .u32 0) := (blk_cell BK308.out 4).trans rfl; have hfz32_0 := blk_frozen BK308.out 0; have hfz32_1 := blk_frozen BK308.out 1; have hfz32_2 := blk_frozen BK308.out 2; have hfz32_3 := blk_frozen BK308.out 3; have hfz32_4 := blk_frozen BK308.out 4))
    refine bodyPost_ret (results_cell_row rfl _ _ gb308 51 #[.int .i64 9, .string t327, .int .i32 t330, .bool false, .int .u32 0] (0, 0) _ rfl (by (with_reducible repeat (first | refine blk_drewN ?_ _ | refine blk_drew ?_ | refine blk_alloc ?_ _)); refine blk_put (cs := #[.int .i64 9, .string t327, .int .i32 t330, .bool false, .int .u32 0]) ?_ 4 _ rfl; (with_reducible repeat (first | refine blk_drewN ?_ _ | refine blk_drew ?_ | refine blk_alloc ?_ _)); refine blk_put (cs := #[.int .i64 9, .string t327, .int .i32 t330, .bool false, .int .u32 0]) ?_ 3 _ rfl; (with_reducible repeat (first | refine blk_drewN ?_ _ | refine blk_drew ?_ | refine blk_alloc ?_ _)); refine blk_put (cs := #[.int .i64 9, .string t327, .int .i32 0, .bool false, .int .u32 0]) ?_ 2 _ rfl; (with_reducible repeat (first | refine blk_drewN ?_ _ | refine blk_drew ?_ | refine blk_alloc ?_ _)); refine blk_put (cs := #[.int .i64 9, .string (⟨#[]⟩ : ByteArray), .int .i32 0, .bool false, .int .u32 0]) ?_ 1 _ rfl; (with_reducible repeat (first | refine blk_drewN ?_ _ | refine blk_drew ?_ | refine blk_alloc ?_ _)); refine blk_put (cs := #[.int .i64 0, .string (⟨#[]⟩ : ByteArray), .int .i32 0, .bool false, .int .u32 0]) ?_ 0 _ rfl; (with_reducible repeat (first | refine blk_drewN ?_ _ | refine blk_drew ?_ | refine blk_alloc ?_ _)); exact BK308.out) Try.underlying51 rfl Z9) rfl ?_
    exact ⟨Z8, Z39, Z40, Z41⟩
   ·rw [if_neg c21] at H
    have c21b0 : (t309 == 2) = false := beq_eq_false_iff_ne.mpr c21
    have c21b1 : (t309 != 2) = true := bne_iff_ne.mpr c21
    replace H := Option.bind_eq_some_iff.mp H
    obtain ⟨⟨t333, t334, t335⟩, A330, H⟩ := H
    replace H : ((spec_l02Name.f k s0_0 t334 t335).bind fun bt336 => (some (wrap64 (1 + t333), bt336.1, 0, false, 0, bt336.2.1, bt336.2.2))) = some (r1, r2, r3, r4, r5, r6, r7) := H
    have A33 := Aside0.mk A330
    clear A330
    replace H := Option.bind_eq_some_iff.mp H
    obtain ⟨⟨t336, t337, t338⟩, A340, H⟩ := H
    replace H : (some (wrap64 (1 + t333), t336, 0, false, 0, t337, t338)) = some (r1, r2, r3, r4, r5, r6, r7) := H
    have A34 := Aside0.mk A340
    clear A340
    simp only [Option.some.injEq, Prod.mk.injEq] at H
    obtain ⟨rfl, rfl, rfl, rfl, rfl, rfl, rfl⟩ := H
    go_enter Try.func84, Try.ntmps84
    go_wp2_with (first | ((with_reducible refine gate_dst (N := 2) rfl ?_); refine box_event (by rfl) (N := 2) (by rfl) (cs := #[.int .i64 0, .string (⟨#[]⟩ : ByteArray), .int .i32 0, .bool false, .int .u32 0]) (t := 51) Z4 ?_; intro gb308 hg w35 hbox hb; replace HB := Z (below_step Z40 hb); have BK308 := Z (hbox); have GW308 := Z ((Z56 : w.heap.size ≤ gb308)); have GE308 := Z ((Nat.le_trans HW0.out (Z56 : w.heap.size ≤ gb308) : w0.heap.size ≤ gb308)); replace HK := Z (KeepBut.trans Z41 (KeepBut.of_below hb g none) (.inl rfl)); have NB0_308 := Z ((Z57 : g ≠ gb308)); have NB308_0 := Z ((Z58 : gb308 ≠ g)); replace HI0 := Z (IsS97.below Z39 hb); clear hb hbox hg) | ((with_reducible refine gate_callee (f := 73) rfl ?_); refine goesL_ (some 4) rfl rfl Try.func73 Z9 rfl #[.pointer (some ⟨g, 0, none⟩), .int .i64 8] rfl Z12 ?_; (with_reducible refine (spec_l01Below.calls g s0_0 s0_1 s0_2 8 t309 t310 t311 w0 _ ?side1 ?side2 A2.out).mono ?_); (case side1 => exact Z39); (case side2 => exact Z40); rintro e w36 ⟨rfl, hi, hb, hk⟩; refine ⟨_, rfl, ?_⟩; replace BK308 := Z (KeepBut.blk hk (g' := gb308) (o := .cells #[.int .i64 0, .string (⟨#[]⟩ : ByteArray), .int .i32 0, .bool false, .int .u32 0] 51 (0, 0)) (Z11 BK308) NB308_0.out (by simp)); replace HK := Z (KeepBut.trans Z41 hk (.inl rfl)); replace HB := Z (hb); replace HI0 := Z (hi); (try clear hb); (try clear hb2); (try clear hk); (try clear hi)) | ((with_reducible refine gate_callee (f := 73) rfl ?_); refine goesL_ (some 28) rfl rfl Try.func73 Z9 rfl #[.pointer (some ⟨g, 0, none⟩), .int .i64 6] rfl Z12 ?_; (with_reducible refine (spec_l01Below.calls g s0_0 t310 t311 6 t333 t334 t335 w0 _ ?side1 ?side2 A33.out).mono ?_); (case side1 => exact Z39); (case side2 => exact Z40); rintro e w37 ⟨rfl, hi, hb, hk⟩; refine ⟨_, rfl, ?_⟩; replace BK308 := Z (KeepBut.blk hk (g' := gb308) (o := .cells #[.int .i64 0, .string (⟨#[]⟩ : ByteArray), .int .i32 0, .bool false, .int .u32 0] 51 (0, 0)) (Z11 BK308) NB308_0.out (by simp)); replace HK := Z (KeepBut.trans Z41 hk (.inl rfl)); replace HB := Z (hb); replace HI0 := Z (hi); (try clear hb); (try clear hb2); (try clear hk); (try clear hi)) | ((with_reducible refine gate_callee (f := 112) rfl ?_); refine goesL_ (some 31) rfl rfl Try.func112 Z9 rfl #[.pointer (some ⟨g, 0, none⟩)] rfl Z12 ?_; (with_reducible refine (spec_l02Name.calls k g s0_0 t334 t335 t336 t337 t338 w0 _ ?side1 ?side2 A34.out).mono ?_); (case side1 => exact Z39); (case side2 => exact Z40); rintro e w38 ⟨rfl, hi, hb, hk⟩; refine ⟨_, rfl, ?_⟩; replace BK308 := Z (KeepBut.blk hk (g' := gb308) (o := .cells #[.int .i64 0, .string (⟨#[]⟩ : ByteArray), .int .i32 0, .bool false, .int .u32 0] 51 (0, 0)) (Z11 BK308) NB308_0.out (by simp)); replace HK := Z (KeepBut.trans Z41 hk (.inl rfl)); replace HB := Z (hb); replace HI0 := Z (hi); (try clear hb); (try clear hb2); (try clear hk); (try clear hi); have hnb39 := NB308_0.out; have hnc39 := NB0_308.out; have hcz40_0 : w38.cell? ⟨gb308, 0, none⟩ = some (.int .i64 0) := (blk_cell BK308.out 0).trans rfl; have hcz40_1 : w38.cell? ⟨gb308, 1, none⟩ = some (.string (⟨#[]⟩ : ByteArray)) := (blk_cell BK308.out 1).trans rfl; have hcz40_2 : w38.cell? ⟨gb308, 2, none⟩ = some (.int .i32 0) := (blk_cell BK308.out 2).trans rfl; have hcz40_3 : w38.cell? ⟨gb308, 3, none⟩ = some (.bool false) := (blk_cell BK308.out 3).trans rfl; have hcz40_4 : w38.cell? ⟨gb308, 4, none⟩ = some (.int .u32 0) := (blk_cell BK308.out 4).trans rfl; have hfz40_0 := blk_frozen BK308.out 0; have hfz40_1 := blk_frozen BK308.out 1; have hfz40_2 := blk_frozen BK308.out 2; have hfz40_3 := blk_frozen BK308.out 3; have hfz40_4 := blk_frozen BK308.out 4))
    refine bodyPost_ret (results_cell_row rfl _ _ gb308 51 #[.int .i64 (wrap64 (1 + t333)), .string t336, .int .i32 0, .bool false, .int .u32 0] (0, 0) _ rfl (by (with_reducible repeat (first | refine blk_drewN ?_ _ | refine blk_drew ?_ | refine blk_alloc ?_ _)); refine blk_put (cs := #[.int .i64 (wrap64 (1 + t333)), .string t336, .int .i32 0, .bool false, .int .u32 0]) ?_ 4 _ rfl; (with_reducible repeat (first | refine blk_drewN ?_ _ | refine blk_drew ?_ | refine blk_alloc ?_ _)); refine blk_put (cs := #[.int .i64 (wrap64 (1 + t333)), .string t336, .int .i32 0, .bool false, .int .u32 0]) ?_ 3 _ rfl; (with_reducible repeat (first | refine blk_drewN ?_ _ | refine blk_drew ?_ | refine blk_alloc ?_ _)); refine blk_put (cs := #[.int .i64 (wrap64 (1 + t333)), .string t336, .int .i32 0, .bool false, .int .u32 0]) ?_ 2 _ rfl; (with_reducible repeat (first | refine blk_drewN ?_ _ | refine blk_drew ?_ | refine blk_alloc ?_ _)); refine blk_put (cs := #[.int .i64 (wrap64 (1 + t333)), .string (⟨#[]⟩ : ByteArray), .int .i32 0, .bool false, .int .u32 0]) ?_ 1 _ rfl; (with_reducible repeat (first | refine blk_drewN ?_ _ | refine blk_drew ?_ | refine blk_alloc ?_ _)); refine blk_put (cs := #[.int .i64 0, .string (⟨#[]⟩ : ByteArray), .int .i32 0, .bool false, .int .u32 0]) ?_ 0 _ rfl; (with_reducible repeat (first | refine blk_drewN ?_ _ | refine blk_drew ?_ | refine blk_alloc ?_ _)); exact BK308.out) Try.underlying51 rfl Z9) rfl ?_
    exact ⟨Z8, Z39, Z40, Z41⟩

/-! ### spec_l01Word: function 85 -/
def spec_l01Word.f (s0_0 : List Int) (s0_1 : Int) (s0_2 : Int) : Option (Int × Int × Int) := (spec_l01Below.f s0_0 s0_1 s0_2 4).bind fun bt339 => (if bt339.1 = 0 then ((spec_l01PickInt.f s0_0 bt339.2.1 bt339.2.2 (([0, 1, 2, 31, 32, 255, 256, 2147483647, 2147483648, 4294967295, 4294967294] : List Int))).bind fun bt345 => (some ((bt345.1) % 4294967296, bt345.2.1, bt345.2.2))) else (if bt339.1 = 1 then ((spec_l01Below.f s0_0 bt339.2.1 bt339.2.2 300).bind fun bt348 => (some ((bt348.1) % 4294967296, bt348.2.1, bt348.2.2))) else ((spec_l01Below.f s0_0 bt339.2.1 bt339.2.2 65536).bind fun bt351 => ((spec_l01Below.f s0_0 bt351.2.1 bt351.2.2 65536).bind fun bt354 => (some ((((((bt351.1) % 4294967296) * 65536) % 4294967296) + ((bt354.1) % 4294967296)) % 4294967296, bt354.2.1, bt354.2.2))))))
set_option maxHeartbeats 8000000 in
set_option maxRecDepth 100000 in
theorem spec_l01Word.calls (g : Nat) (s0_0 : List Int) (s0_1 : Int) (s0_2 : Int) (r1 : Int) (r2 : Int) (r3 : Int) (w0 w : World) (hI : IsS97 w0 w g s0_0 s0_1 s0_2) (hB : Below w0.heap.size w0 w) (h : spec_l01Word.f s0_0 s0_1 s0_2 = some (r1, r2, r3)) :
  Calls Try.prog 85 #[.pointer (some ⟨g, 0, none⟩)] w fun e w' => e = .returned (.int .u32 r1) ∧ IsS97 w0 w' g s0_0 r2 r3 ∧ Below w0.heap.size w0 w' ∧ KeepBut w w' g none := by
 have HI0 := Aside0.mk hI
 have HK := Z (KeepBut.refl w g none)
 have HL := Aside0.mk hB.size
 clear hI
 have HW0 := Aside0.mk hB.size
 have HB := Aside0.mk hB
 clear hB
 have H : ((spec_l01Below.f s0_0 s0_1 s0_2 4).bind fun bt339 => (if bt339.1 = 0 then ((spec_l01PickInt.f s0_0 bt339.2.1 bt339.2.2 (([0, 1, 2, 31, 32, 255, 256, 2147483647, 2147483648, 4294967295, 4294967294] : List Int))).bind fun bt345 => (some ((bt345.1) % 4294967296, bt345.2.1, bt345.2.2))) else (if bt339.1 = 1 then ((spec_l01Below.f s0_0 bt339.2.1 bt339.2.2 300).bind fun bt348 => (some ((bt348.1) % 4294967296, bt348.2.1, bt348.2.2))) else ((spec_l01Below.f s0_0 bt339.2.1 bt339.2.2 65536).bind fun bt351 => ((spec_l01Below.f s0_0 bt351.2.1 bt351.2.2 65536).bind fun bt354 => (some ((((((bt351.1) % 4294967296) * 65536) % 4294967296) + ((bt354.1) % 4294967296)) % 4294967296, bt354.2.1, bt354.2.2))))))) = some (r1, r2, r3) := h
 clear h
 replace H := Option.bind_eq_some_iff.mp H
 obtain ⟨⟨t339, t340, t341⟩, A20, H⟩ := H
 replace H : (if t339 = 0 then ((spec_l01PickInt.f s0_0 t340 t341 (([0, 1, 2, 31, 32, 255, 256, 2147483647, 2147483648, 4294967295, 4294967294] : List Int))).bind fun bt345 => (some ((bt345.1) % 4294967296, bt345.2.1, bt345.2.2))) else (if t339 = 1 then ((spec_l01Below.f s0_0 t340 t341 300).bind fun bt348 => (some ((bt348.1) % 4294967296, bt348.2.1, bt348.2.2))) else ((spec_l01Below.f s0_0 t340 t341 65536).bind fun bt351 => ((spec_l01Below.f s0_0 bt351.2.1 bt351.2.2 65536).bind fun bt354 => (some ((((((bt351.1) % 4294967296) * 65536) % 4294967296) + ((bt354.1) % 4294967296)) % 4294967296, bt354.2.1, bt354.2.2)))))) = some (r1, r2, r3) := H
 have A2 := Aside0.mk A20
 clear A20
 by_cases c3 : t339 = 0
 ·rw [if_pos c3] at H
  have c3b0 : (t339 == 0) = true := beq_iff_eq.mpr c3
  have c3b1 : (t339 != 0) = false := bne_eq_false_iff_eq.mpr c3
  clear c3
  obtain ⟨y342, hy342⟩ : ∃ y_ : List Int, y_ = (([0, 1, 2, 31, 32, 255, 256, 2147483647, 2147483648, 4294967295, 4294967294] : List Int)) := ⟨_, rfl⟩
  replace H : ((spec_l01PickInt.f s0_0 t340 t341 y342).bind fun bt345 => (some ((bt345.1) % 4294967296, bt345.2.1, bt345.2.2))) = some (r1, r2, r3) := by first | (rw [hy342]; with_reducible exact H) | (have H2_ := (Option.bind_some _ _).symm.trans H; rw [hy342]; with_reducible exact H2_) | (have H2_ := (Option.bind_some _ _).symm.trans H; with_reducible exact H2_) | with_reducible exact H | (rw [hy342]; exact H) | exact H
  have Ny342 := Aside0.mk hy342
  clear hy342
  replace H := Option.bind_eq_some_iff.mp H
  obtain ⟨⟨t345, t346, t347⟩, A40, H⟩ := H
  replace H : (some ((t345) % 4294967296, t346, t347)) = some (r1, r2, r3) := H
  have A4 := Aside0.mk A40
  clear A40
  simp only [Option.some.injEq, Prod.mk.injEq] at H
  obtain ⟨rfl, rfl, rfl⟩ := H
  go_enter Try.func85, Try.ntmps85
  go_wp2_with (first | ((with_reducible refine gate_callee (f := 73) rfl ?_); refine goesL_ (some 4) rfl rfl Try.func73 Z9 rfl #[.pointer (some ⟨g, 0, none⟩), .int .i64 4] rfl Z12 ?_; (with_reducible refine (spec_l01Below.calls g s0_0 s0_1 s0_2 4 t339 t340 t341 w0 _ ?side1 ?side2 A2.out).mono ?_); (case side1 => exact Z39); (case side2 => exact Z40); rintro e w5 ⟨rfl, hi, hb, hk⟩; refine ⟨_, rfl, ?_⟩; replace HK := Z (KeepBut.trans Z41 hk (.inl rfl)); replace HB := Z (hb); replace HI0 := Z (hi); (try clear hb); (try clear hb2); (try clear hk); (try clear hi)) | ((with_reducible refine gate_dst (N := 8) rfl ?_); refine Kd.R_lit (Kd.int .i64) _ 3 (by rfl) (N := 8) (by rfl) (xs := ([0, 1, 2, 31, 32, 255, 256, 2147483647, 2147483648, 4294967295, 4294967294] : List Int)) (inner := [.int .i64 0, .int .i64 1, .int .i64 2, .int .i64 31, .int .i64 32, .int .i64 255, .int .i64 256, .int .i64 2147483647, .int .i64 2147483648, .int .i64 4294967295, .int .i64 4294967294]) (ok := fun _ => True) (okp := fun _ => True) Z4 (Reps.one (show Kd.M (Kd.int .i64) _ _ _ 0 [.int .i64 0] from rfl) (Reps.one (show Kd.M (Kd.int .i64) _ _ _ 1 [.int .i64 1] from rfl) (Reps.one (show Kd.M (Kd.int .i64) _ _ _ 2 [.int .i64 2] from rfl) (Reps.one (show Kd.M (Kd.int .i64) _ _ _ 31 [.int .i64 31] from rfl) (Reps.one (show Kd.M (Kd.int .i64) _ _ _ 32 [.int .i64 32] from rfl) (Reps.one (show Kd.M (Kd.int .i64) _ _ _ 255 [.int .i64 255] from rfl) (Reps.one (show Kd.M (Kd.int .i64) _ _ _ 256 [.int .i64 256] from rfl) (Reps.one (show Kd.M (Kd.int .i64) _ _ _ 2147483647 [.int .i64 2147483647] from rfl) (Reps.one (show Kd.M (Kd.int .i64) _ _ _ 2147483648 [.int .i64 2147483648] from rfl) (Reps.one (show Kd.M (Kd.int .i64) _ _ _ 4294967295 [.int .i64 4294967295] from rfl) (Reps.one (show Kd.M (Kd.int .i64) _ _ _ 4294967294 [.int .i64 4294967294] from rfl) (Reps.none _ _)))))))))))) (fun _ hk => hk) trivial (Below.refl _ _) (Nat.le_refl _) (by simp) ?_; intro v343 w6 ho7 hb hg_ hnew_; clear hg_ hnew_; (first | rw [← Ny342.out] at ho7 | (simp only [Int.reduceToNat] at ho7; rw [← Ny342.out] at ho7)); have HO344 := Z (Kd.R_lower ho7 (keep_size (w := w) (g := g) (row := none) Z41)); replace HK := Z (KeepBut.trans Z41 (KeepBut.of_below hb g none) (.inl rfl)); replace HB := Z (below_step Z40 hb); replace HI0 := Z (IsS97.below Z39 hb); clear hb ho7; obtain ⟨Ao8, co8, eo8⟩ := Kd.R_slice HO344.out; subst eo8) | ((with_reducible refine gate_callee (f := 86) rfl ?_); refine goesL_ (some 9) rfl rfl Try.func86 Z9 rfl #[.pointer (some ⟨g, 0, none⟩), .slice Ao8 y342.length co8] rfl Z12 ?_; (with_reducible refine (spec_l01PickInt.calls g s0_0 t340 t341 _ _ y342 t345 t346 t347 w0 _ ?side1 ?side2 ?side3 ?side4 ?side5 A4.out).mono ?_); (case side1 => exact Z39); (case side2 => exact Z40); (case side3 => exact (Z13 HO344)); (case side4 => exact (Kd.R_reads' HO344.out).2.1); (case side5 => exact far_slice (IsS97.own_ne HI0.out HO344.out (by decide))); rintro e w9 ⟨rfl, hi, hb, hk⟩; refine ⟨_, rfl, ?_⟩; replace HO344 := Z (Kd.R_mono (Kd.R_keep (IsS97.apart (show IsS97 w0 _ g s0_0 t340 t341 from Z39) (Z7 HO344) (by decide)) hk (fun _ h => h.2)) (fun _ h => h.1)); replace HK := Z (KeepBut.trans Z41 hk (.inl rfl)); replace HB := Z (hb); replace HI0 := Z (hi); (try clear hb); (try clear hb2); (try clear hk); (try clear hi)))
  go_ret
  exact ⟨Z8, Z39, Z40, Z41⟩
 ·rw [if_neg c3] at H
  have c3b0 : (t339 == 0) = false := beq_eq_false_iff_ne.mpr c3
  have c3b1 : (t339 != 0) = true := bne_iff_ne.mpr c3
  by_cases c10 : t339 = 1
  ·rw [if_pos c10] at H
   have c10b0 : (t339 == 1) = true := beq_iff_eq.mpr c10
   have c10b1 : (t339 != 1) = false := bne_eq_false_iff_eq.mpr c10
   clear c10
   replace H := Option.bind_eq_some_iff.mp H
   obtain ⟨⟨t348, t349, t350⟩, A110, H⟩ := H
   replace H : (some ((t348) % 4294967296, t349, t350)) = some (r1, r2, r3) := H
   have A11 := Aside0.mk A110
   clear A110
   simp only [Option.some.injEq, Prod.mk.injEq] at H
   obtain ⟨rfl, rfl, rfl⟩ := H
   go_enter Try.func85, Try.ntmps85
   go_wp2_with (first | ((with_reducible refine gate_callee (f := 73) rfl ?_); refine goesL_ (some 4) rfl rfl Try.func73 Z9 rfl #[.pointer (some ⟨g, 0, none⟩), .int .i64 4] rfl Z12 ?_; (with_reducible refine (spec_l01Below.calls g s0_0 s0_1 s0_2 4 t339 t340 t341 w0 _ ?side1 ?side2 A2.out).mono ?_); (case side1 => exact Z39); (case side2 => exact Z40); rintro e w12 ⟨rfl, hi, hb, hk⟩; refine ⟨_, rfl, ?_⟩; replace HK := Z (KeepBut.trans Z41 hk (.inl rfl)); replace HB := Z (hb); replace HI0 := Z (hi); (try clear hb); (try clear hb2); (try clear hk); (try clear hi)) | ((with_reducible refine gate_callee (f := 73) rfl ?_); refine goesL_ (some 14) rfl rfl Try.func73 Z9 rfl #[.pointer (some ⟨g, 0, none⟩), .int .i64 300] rfl Z12 ?_; (with_reducible refine (spec_l01Below.calls g s0_0 t340 t341 300 t348 t349 t350 w0 _ ?side1 ?side2 A11.out).mono ?_); (case side1 => exact Z39); (case side2 => exact Z40); rintro e w13 ⟨rfl, hi, hb, hk⟩; refine ⟨_, rfl, ?_⟩; replace HK := Z (KeepBut.trans Z41 hk (.inl rfl)); replace HB := Z (hb); replace HI0 := Z (hi); (try clear hb); (try clear hb2); (try clear hk); (try clear hi)))
   go_ret
   exact ⟨Z8, Z39, Z40, Z41⟩
  ·rw [if_neg c10] at H
   have c10b0 : (t339 == 1) = false := beq_eq_false_iff_ne.mpr c10
   have c10b1 : (t339 != 1) = true := bne_iff_ne.mpr c10
   replace H := Option.bind_eq_some_iff.mp H
   obtain ⟨⟨t351, t352, t353⟩, A140, H⟩ := H
   replace H : ((spec_l01Below.f s0_0 t352 t353 65536).bind fun bt354 => (some ((((((t351) % 4294967296) * 65536) % 4294967296) + ((bt354.1) % 4294967296)) % 4294967296, bt354.2.1, bt354.2.2))) = some (r1, r2, r3) := H
   have A14 := Aside0.mk A140
   clear A140
   replace H := Option.bind_eq_some_iff.mp H
   obtain ⟨⟨t354, t355, t356⟩, A150, H⟩ := H
   replace H : (some ((((((t351) % 4294967296) * 65536) % 4294967296) + ((t354) % 4294967296)) % 4294967296, t355, t356)) = some (r1, r2, r3) := H
   have A15 := Aside0.mk A150
   clear A150
   simp only [Option.some.injEq, Prod.mk.injEq] at H
   obtain ⟨rfl, rfl, rfl⟩ := H
   go_enter Try.func85, Try.ntmps85
   go_wp2_with (first | ((with_reducible refine gate_callee (f := 73) rfl ?_); refine goesL_ (some 4) rfl rfl Try.func73 Z9 rfl #[.pointer (some ⟨g, 0, none⟩), .int .i64 4] rfl Z12 ?_; (with_reducible refine (spec_l01Below.calls g s0_0 s0_1 s0_2 4 t339 t340 t341 w0 _ ?side1 ?side2 A2.out).mono ?_); (case side1 => exact Z39); (case side2 => exact Z40); rintro e w16 ⟨rfl, hi, hb, hk⟩; refine ⟨_, rfl, ?_⟩; replace HK := Z (KeepBut.trans Z41 hk (.inl rfl)); replace HB := Z (hb); replace HI0 := Z (hi); (try clear hb); (try clear hb2); (try clear hk); (try clear hi)) | ((with_reducible refine gate_callee (f := 73) rfl ?_); refine goesL_ (some 17) rfl rfl Try.func73 Z9 rfl #[.pointer (some ⟨g, 0, none⟩), .int .i64 65536] rfl Z12 ?_; (with_reducible refine (spec_l01Below.calls g s0_0 t340 t341 65536 t351 t352 t353 w0 _ ?side1 ?side2 A14.out).mono ?_); (case side1 => exact Z39); (case side2 => exact Z40); rintro e w17 ⟨rfl, hi, hb, hk⟩; refine ⟨_, rfl, ?_⟩; replace HK := Z (KeepBut.trans Z41 hk (.inl rfl)); replace HB := Z (hb); replace HI0 := Z (hi); (try clear hb); (try clear hb2); (try clear hk); (try clear hi)) | ((with_reducible refine gate_callee (f := 73) rfl ?_); refine goesL_ (some 21) rfl rfl Try.func73 Z9 rfl #[.pointer (some ⟨g, 0, none⟩), .int .i64 65536] rfl Z12 ?_; (with_reducible refine (spec_l01Below.calls g s0_0 t352 t353 65536 t354 t355 t356 w0 _ ?side1 ?side2 A15.out).mono ?_); (case side1 => exact Z39); (case side2 => exact Z40); rintro e w18 ⟨rfl, hi, hb, hk⟩; refine ⟨_, rfl, ?_⟩; replace HK := Z (KeepBut.trans Z41 hk (.inl rfl)); replace HB := Z (hb); replace HI0 := Z (hi); (try clear hb); (try clear hb2); (try clear hk); (try clear hi)))
   go_ret
   exact ⟨Z8, Z39, Z40, Z41⟩

/-! ### spec_l04Cells: function 58 -/
def spec_l04Cells.l0 : Nat → List Int → Int → Int → List Int → Int → Int → Option (List Int × Int × Int)
 | 0, _, _, _, _, _, _ => none
 | k + 1, x3, x4, x5, x1000, x1001, x1002 => if x5 < x4 then ((spec_l04Some.f k x1000 x1001 x1002).bind fun bt369 => ((spec_CellsOf.f k bt369.1 bt369.2.1 bt369.2.2.1 bt369.2.2.2.1 bt369.2.2.2.2.1).bind fun t376 => (if x3.length + t376.length < 35184372088832 then ((some (x3 ++ t376 : List Int)).bind fun y379 => ((spec_l01Below.f x1000 bt369.2.2.2.2.2.1 bt369.2.2.2.2.2.2 9).bind fun bt382 => (if bt382.1 = 0 then ((spec_l01Word.f x1000 bt382.2.1 bt382.2.2).bind fun bt385 => (if y379.length < 35184372088832 then (spec_l04Cells.l0 k (y379 ++ [bt385.1]) x4 (wrap64 (x5 + 1)) x1000 bt385.2.1 bt385.2.2) else (none))) else (if bt382.1 = 1 then (if y379.length < 35184372088832 then (spec_l04Cells.l0 k (y379 ++ [0]) x4 (wrap64 (x5 + 1)) x1000 bt382.2.1 bt382.2.2) else (none)) else (if bt382.1 = 2 then ((spec_l01Below.f x1000 bt382.2.1 bt382.2.2 4096).bind fun bt394 => (if y379.length < 35184372088832 then (spec_l04Cells.l0 k (y379 ++ [(((bt394.1) % 4294967296) * 16) % 4294967296]) x4 (wrap64 (x5 + 1)) x1000 bt394.2.1 bt394.2.2) else (none))) else (if bt382.1 = 3 then ((spec_l01PickInt.f x1000 bt382.2.1 bt382.2.2 (([2, 18, 5, 34, 12] : List Int))).bind fun bt403 => (if y379.length < 35184372088832 then (spec_l04Cells.l0 k (y379 ++ [(bt403.1) % 4294967296]) x4 (wrap64 (x5 + 1)) x1000 bt403.2.1 bt403.2.2) else (none))) else (spec_l04Cells.l0 k y379 x4 (wrap64 (x5 + 1)) x1000 bt382.2.1 bt382.2.2))))))) else (none)))) else (if (x3.length : Int) > 64 then ((spec_l01Once.f x1000 x1001 x1002 6).bind fun bt363 => (if bt363.1 = true then (some (x3, bt363.2.1, bt363.2.2)) else (if 64 ≤ (x3.length : Int) then (some ((x3.take (64 : Int).toNat), bt363.2.1, bt363.2.2)) else (none)))) else (some (x3, x1001, x1002)))
def spec_l04Cells.f (k : Nat) (s0_0 : List Int) (s0_1 : Int) (s0_2 : Int) : Option (List Int × Int × Int) := (spec_l01Below.f s0_0 s0_1 s0_2 14).bind fun bt360 => (spec_l04Cells.l0 k (([] : List Int)) bt360.1 0 s0_0 bt360.2.1 bt360.2.2)
theorem spec_l04Cells.mono_l : ∀ k, (∀ y0 y1 y2 y3 y4 y5, LeO (spec_l04Cells.l0 k y0 y1 y2 y3 y4 y5) (spec_l04Cells.l0 (k + 1) y0 y1 y2 y3 y4 y5))
 | 0 => fun _ _ _ _ _ _ r h => by simp [spec_l04Cells.l0] at h
 | k + 1 => by
  have ih0 := spec_l04Cells.mono_l k
  ·intro y0 y1 y2 y3 y4 y5
   unfold spec_l04Cells.l0
   repeat' first
   | (with_reducible exact ih0 _ _ _ _ _ _)
   | (with_reducible exact spec_CellsOf.mono _ _ _ _ _ _)
   | (with_reducible exact spec_l04Some.mono _ _ _ _)
   | (with_reducible exact LeO.refl _)
   | (with_reducible exact LeO.none _)
   | (with_reducible refine LeO.ite ?_ ?_)
   | (with_reducible refine LeO.bind ?_ (fun _ => ?_))
   | exact ih0 _ _ _ _ _ _
   | exact spec_CellsOf.mono _ _ _ _ _ _
   | exact spec_l04Some.mono _ _ _ _
   | exact LeO.none _
   | refine LeO.ite ?_ ?_
   | refine LeO.bind ?_ (fun _ => ?_)
theorem spec_l04Cells.mono : ∀ a0 a1 a2 k, LeO (spec_l04Cells.f k a0 a1 a2) (spec_l04Cells.f (k + 1) a0 a1 a2) := by
 intro a0 a1 a2 k
 have ih0 := spec_l04Cells.mono_l k
 unfold spec_l04Cells.f
 repeat' first
   | (with_reducible exact ih0 _ _ _ _ _ _)
   | (with_reducible exact spec_CellsOf.mono _ _ _ _ _ _)
   | (with_reducible exact spec_l04Some.mono _ _ _ _)
   | (with_reducible exact LeO.refl _)
   | (with_reducible exact LeO.none _)
   | (with_reducible refine LeO.ite ?_ ?_)
   | (with_reducible refine LeO.bind ?_ (fun _ => ?_))
   | exact ih0 _ _ _ _ _ _
   | exact spec_CellsOf.mono _ _ _ _ _ _
   | exact spec_l04Some.mono _ _ _ _
   | exact LeO.none _
   | refine LeO.ite ?_ ?_
   | refine LeO.bind ?_ (fun _ => ?_)
set_option maxHeartbeats 8000000 in
set_option maxRecDepth 100000 in
theorem spec_l04Cells.calls (k : Nat) (g : Nat) (s0_0 : List Int) (s0_1 : Int) (s0_2 : Int) (r1 : List Int) (r2 : Int) (r3 : Int) (w0 w : World) (hI : IsS97 w0 w g s0_0 s0_1 s0_2) (hB : Below w0.heap.size w0 w) (h : spec_l04Cells.f k s0_0 s0_1 s0_2 = some (r1, r2, r3)) :
  Calls Try.prog 58 #[.pointer (some ⟨g, 0, none⟩)] w fun e w' => ∃ v0_ : Value, e = .returned (v0_) ∧ Kd.R (Kd.int .u32) 47 w' w.heap.size (fun _ => True) v0_ r1 ∧ IsS97 w0 w' g s0_0 r2 r3 ∧ Below w0.heap.size w0 w' ∧ KeepBut w w' g none := by
 have HI0 := Aside0.mk hI
 have HK := Z (KeepBut.refl w g none)
 have HL := Aside0.mk hB.size
 clear hI
 have HW0 := Aside0.mk hB.size
 have HB := Aside0.mk hB
 clear hB
 have H : ((spec_l01Below.f s0_0 s0_1 s0_2 14).bind fun bt360 => (spec_l04Cells.l0 k (([] : List Int)) bt360.1 0 s0_0 bt360.2.1 bt360.2.2)) = some (r1, r2, r3) := h
 clear h
 obtain ⟨y357, hy357⟩ : ∃ y_ : List Int, y_ = (([] : List Int)) := ⟨_, rfl⟩
 replace H : ((spec_l01Below.f s0_0 s0_1 s0_2 14).bind fun bt360 => (spec_l04Cells.l0 k y357 bt360.1 0 s0_0 bt360.2.1 bt360.2.2)) = some (r1, r2, r3) := by first | (rw [hy357]; with_reducible exact H) | (have H2_ := (Option.bind_some _ _).symm.trans H; rw [hy357]; with_reducible exact H2_) | (have H2_ := (Option.bind_some _ _).symm.trans H; with_reducible exact H2_) | with_reducible exact H | (rw [hy357]; exact H) | exact H
 have Ny357 := Aside0.mk hy357
 clear hy357
 replace H := Option.bind_eq_some_iff.mp H
 obtain ⟨⟨t360, t361, t362⟩, A20, H⟩ := H
 replace H : (spec_l04Cells.l0 k y357 t360 0 s0_0 t361 t362) = some (r1, r2, r3) := H
 have A2 := Aside0.mk A20
 clear A20
 have H' := Aside0.mk H
 clear H
 go_enter Try.func58, Try.ntmps58
 go_wp2_with (first | ((with_reducible refine gate_dst (N := 6) rfl ?_); refine Kd.R_lit (Kd.int .u32) _ 47 (by rfl) (N := 6) (by rfl) (xs := ([] : List Int)) (inner := []) (ok := fun _ => True) (okp := fun _ => True) Z4 (Reps.none _ _) (fun _ hk => hk) trivial (Below.refl _ _) (Nat.le_refl _) (by simp) ?_; intro v358 w3 ho4 hb hg_ hnew_; clear hg_ hnew_; (first | rw [← Ny357.out] at ho4 | (simp only [Int.reduceToNat] at ho4; rw [← Ny357.out] at ho4)); have HO359 := Z (Kd.R_lower ho4 (keep_size (w := w) (g := g) (row := none) Z41)); replace HK := Z (KeepBut.trans Z41 (KeepBut.of_below hb g none) (.inl rfl)); replace HB := Z (below_step Z40 hb); replace HI0 := Z (IsS97.below Z39 hb); clear hb ho4) | ((with_reducible refine gate_callee (f := 73) rfl ?_); refine goesL_ (some 8) rfl rfl Try.func73 Z9 rfl #[.pointer (some ⟨g, 0, none⟩), .int .i64 14] rfl Z12 ?_; (with_reducible refine (spec_l01Below.calls g s0_0 s0_1 s0_2 14 t360 t361 t362 w0 _ ?side1 ?side2 A2.out).mono ?_); (case side1 => exact Z39); (case side2 => exact Z40); rintro e w5 ⟨rfl, hi, hb, hk⟩; refine ⟨_, rfl, ?_⟩; replace HO359 := Z (Kd.R_mono (Kd.R_keep (IsS97.apart (show IsS97 w0 _ g s0_0 s0_1 s0_2 from Z39) (Z7 HO359) (by decide)) hk (fun _ h => h.2)) (fun _ h => h.1)); replace HK := Z (KeepBut.trans Z41 hk (.inl rfl)); replace HB := Z (hb); replace HI0 := Z (hi); (try clear hb); (try clear hb2); (try clear hk); (try clear hi)))
 go_loopg [3, 5] k (fun kq v3 v5 w' => ∃ (x3_1 : List Int) (x5_1 : Int) (x1001_1 : Int) (x1002_1 : Int), v5 = .int .i64 x5_1 ∧ Aside0 (spec_l04Cells.l0 kq x3_1 t360 x5_1 s0_0 x1001_1 x1002_1 = some (r1, r2, r3)) ∧ Aside0 (kq ≤ k) ∧ Aside0 (Kd.R (Kd.int .u32) 47 w' w.heap.size (fun _ => True) v3 x3_1) ∧ Aside0 (IsS97 w0 w' g s0_0 x1001_1 x1002_1) ∧ Aside0 (KeepBut w w' g none) ∧ Aside0 (Below w0.heap.size w0 w'))
 case atStart => exact ⟨(y357), (0), (t361), (t362), Z0, H', ⟨Nat.le_refl _⟩, ⟨(Z7 HO359)⟩, ⟨Z39⟩, ⟨Z41⟩, ⟨Z40⟩⟩
 case round =>
  clear H'
  try clear p2
  try clear c5
  obtain ⟨x3_1, x5_1, x1001_1, x1002_1, rfl, HA, HK1, HO_3, HI0, HK, HB⟩ := hrel
  cases gk with
  | zero => exact absurd HA.out (by simp [spec_l04Cells.l0])
  | succ k1 =>
   have H := HA.out
   clear HA
   simp only [spec_l04Cells.l0] at H
   by_cases c6 : x5_1 < t360
   ·rw [if_pos c6] at H
    have c6b0 : decide (x5_1 < t360) = true := decide_eq_true c6
    clear c6
    replace H := Option.bind_eq_some_iff.mp H
    obtain ⟨⟨t369, t370, t371, t372, t373, t374, t375⟩, A70, H⟩ := H
    replace H : ((spec_CellsOf.f k1 t369 t370 t371 t372 t373).bind fun t376 => (if x3_1.length + t376.length < 35184372088832 then ((some (x3_1 ++ t376 : List Int)).bind fun y379 => ((spec_l01Below.f s0_0 t374 t375 9).bind fun bt382 => (if bt382.1 = 0 then ((spec_l01Word.f s0_0 bt382.2.1 bt382.2.2).bind fun bt385 => (if y379.length < 35184372088832 then (spec_l04Cells.l0 k1 (y379 ++ [bt385.1]) t360 (wrap64 (x5_1 + 1)) s0_0 bt385.2.1 bt385.2.2) else (none))) else (if bt382.1 = 1 then (if y379.length < 35184372088832 then (spec_l04Cells.l0 k1 (y379 ++ [0]) t360 (wrap64 (x5_1 + 1)) s0_0 bt382.2.1 bt382.2.2) else (none)) else (if bt382.1 = 2 then ((spec_l01Below.f s0_0 bt382.2.1 bt382.2.2 4096).bind fun bt394 => (if y379.length < 35184372088832 then (spec_l04Cells.l0 k1 (y379 ++ [(((bt394.1) % 4294967296) * 16) % 4294967296]) t360 (wrap64 (x5_1 + 1)) s0_0 bt394.2.1 bt394.2.2) else (none))) else (if bt382.1 = 3 then ((spec_l01PickInt.f s0_0 bt382.2.1 bt382.2.2 (([2, 18, 5, 34, 12] : List Int))).bind fun bt403 => (if y379.length < 35184372088832 then (spec_l04Cells.l0 k1 (y379 ++ [(bt403.1) % 4294967296]) t360 (wrap64 (x5_1 + 1)) s0_0 bt403.2.1 bt403.2.2) else (none))) else (spec_l04Cells.l0 k1 y379 t360 (wrap64 (x5_1 + 1)) s0_0 bt382.2.1 bt382.2.2))))))) else (none))) = some (r1, r2, r3) := H
    have A7 := Aside0.mk A70
    clear A70
    replace H := Option.bind_eq_some_iff.mp H
    obtain ⟨t376, A80, H⟩ := H
    replace H : (if x3_1.length + t376.length < 35184372088832 then ((some (x3_1 ++ t376 : List Int)).bind fun y379 => ((spec_l01Below.f s0_0 t374 t375 9).bind fun bt382 => (if bt382.1 = 0 then ((spec_l01Word.f s0_0 bt382.2.1 bt382.2.2).bind fun bt385 => (if y379.length < 35184372088832 then (spec_l04Cells.l0 k1 (y379 ++ [bt385.1]) t360 (wrap64 (x5_1 + 1)) s0_0 bt385.2.1 bt385.2.2) else (none))) else (if bt382.1 = 1 then (if y379.length < 35184372088832 then (spec_l04Cells.l0 k1 (y379 ++ [0]) t360 (wrap64 (x5_1 + 1)) s0_0 bt382.2.1 bt382.2.2) else (none)) else (if bt382.1 = 2 then ((spec_l01Below.f s0_0 bt382.2.1 bt382.2.2 4096).bind fun bt394 => (if y379.length < 35184372088832 then (spec_l04Cells.l0 k1 (y379 ++ [(((bt394.1) % 4294967296) * 16) % 4294967296]) t360 (wrap64 (x5_1 + 1)) s0_0 bt394.2.1 bt394.2.2) else (none))) else (if bt382.1 = 3 then ((spec_l01PickInt.f s0_0 bt382.2.1 bt382.2.2 (([2, 18, 5, 34, 12] : List Int))).bind fun bt403 => (if y379.length < 35184372088832 then (spec_l04Cells.l0 k1 (y379 ++ [(bt403.1) % 4294967296]) t360 (wrap64 (x5_1 + 1)) s0_0 bt403.2.1 bt403.2.2) else (none))) else (spec_l04Cells.l0 k1 y379 t360 (wrap64 (x5_1 + 1)) s0_0 bt382.2.1 bt382.2.2))))))) else (none)) = some (r1, r2, r3) := H
    have A8 := Aside0.mk A80
    clear A80
    by_cases c9 : x3_1.length + t376.length < 35184372088832
    ·rw [if_pos c9] at H
     have LMc9 := Aside0.mk c9
     clear c9
     obtain ⟨y379, hy379⟩ : ∃ y_ : List Int, y_ = (x3_1 ++ t376) := ⟨_, rfl⟩
     replace H : ((spec_l01Below.f s0_0 t374 t375 9).bind fun bt382 => (if bt382.1 = 0 then ((spec_l01Word.f s0_0 bt382.2.1 bt382.2.2).bind fun bt385 => (if y379.length < 35184372088832 then (spec_l04Cells.l0 k1 (y379 ++ [bt385.1]) t360 (wrap64 (x5_1 + 1)) s0_0 bt385.2.1 bt385.2.2) else (none))) else (if bt382.1 = 1 then (if y379.length < 35184372088832 then (spec_l04Cells.l0 k1 (y379 ++ [0]) t360 (wrap64 (x5_1 + 1)) s0_0 bt382.2.1 bt382.2.2) else (none)) else (if bt382.1 = 2 then ((spec_l01Below.f s0_0 bt382.2.1 bt382.2.2 4096).bind fun bt394 => (if y379.length < 35184372088832 then (spec_l04Cells.l0 k1 (y379 ++ [(((bt394.1) % 4294967296) * 16) % 4294967296]) t360 (wrap64 (x5_1 + 1)) s0_0 bt394.2.1 bt394.2.2) else (none))) else (if bt382.1 = 3 then ((spec_l01PickInt.f s0_0 bt382.2.1 bt382.2.2 (([2, 18, 5, 34, 12] : List Int))).bind fun bt403 => (if y379.length < 35184372088832 then (spec_l04Cells.l0 k1 (y379 ++ [(bt403.1) % 4294967296]) t360 (wrap64 (x5_1 + 1)) s0_0 bt403.2.1 bt403.2.2) else (none))) else (spec_l04Cells.l0 k1 y379 t360 (wrap64 (x5_1 + 1)) s0_0 bt382.2.1 bt382.2.2)))))) = some (r1, r2, r3) := by first | (rw [hy379]; with_reducible exact H) | (have H2_ := (Option.bind_some _ _).symm.trans H; rw [hy379]; with_reducible exact H2_) | (have H2_ := (Option.bind_some _ _).symm.trans H; with_reducible exact H2_) | with_reducible exact H | (rw [hy379]; exact H) | exact H
     have Ny379 := Aside0.mk hy379
     clear hy379
     replace H := Option.bind_eq_some_iff.mp H
     obtain ⟨⟨t382, t383, t384⟩, A100, H⟩ := H
     replace H : (if t382 = 0 then ((spec_l01Word.f s0_0 t383 t384).bind fun bt385 => (if y379.length < 35184372088832 then (spec_l04Cells.l0 k1 (y379 ++ [bt385.1]) t360 (wrap64 (x5_1 + 1)) s0_0 bt385.2.1 bt385.2.2) else (none))) else (if t382 = 1 then (if y379.length < 35184372088832 then (spec_l04Cells.l0 k1 (y379 ++ [0]) t360 (wrap64 (x5_1 + 1)) s0_0 t383 t384) else (none)) else (if t382 = 2 then ((spec_l01Below.f s0_0 t383 t384 4096).bind fun bt394 => (if y379.length < 35184372088832 then (spec_l04Cells.l0 k1 (y379 ++ [(((bt394.1) % 4294967296) * 16) % 4294967296]) t360 (wrap64 (x5_1 + 1)) s0_0 bt394.2.1 bt394.2.2) else (none))) else (if t382 = 3 then ((spec_l01PickInt.f s0_0 t383 t384 (([2, 18, 5, 34, 12] : List Int))).bind fun bt403 => (if y379.length < 35184372088832 then (spec_l04Cells.l0 k1 (y379 ++ [(bt403.1) % 4294967296]) t360 (wrap64 (x5_1 + 1)) s0_0 bt403.2.1 bt403.2.2) else (none))) else (spec_l04Cells.l0 k1 y379 t360 (wrap64 (x5_1 + 1)) s0_0 t383 t384))))) = some (r1, r2, r3) := H
     have A10 := Aside0.mk A100
     clear A100
     by_cases c11 : t382 = 0
     ·rw [if_pos c11] at H
      have c11b0 : (t382 == 0) = true := beq_iff_eq.mpr c11
      have c11b1 : (t382 != 0) = false := bne_eq_false_iff_eq.mpr c11
      clear c11
      replace H := Option.bind_eq_some_iff.mp H
      obtain ⟨⟨t385, t386, t387⟩, A120, H⟩ := H
      replace H : (if y379.length < 35184372088832 then (spec_l04Cells.l0 k1 (y379 ++ [t385]) t360 (wrap64 (x5_1 + 1)) s0_0 t386 t387) else (none)) = some (r1, r2, r3) := H
      have A12 := Aside0.mk A120
      clear A120
      by_cases c13 : y379.length < 35184372088832
      ·rw [if_pos c13] at H
       have LMc13 := Aside0.mk c13
       clear c13
       obtain ⟨y388, hy388⟩ : ∃ y_ : List Int, y_ = (y379 ++ [t385]) := ⟨_, rfl⟩
       replace H : (spec_l04Cells.l0 k1 y388 t360 (wrap64 (x5_1 + 1)) s0_0 t386 t387) = some (r1, r2, r3) := by first | (rw [hy388]; with_reducible exact H) | (have H2_ := (Option.bind_some _ _).symm.trans H; rw [hy388]; with_reducible exact H2_) | (have H2_ := (Option.bind_some _ _).symm.trans H; with_reducible exact H2_) | with_reducible exact H | (rw [hy388]; exact H) | exact H
       have Ny388 := Aside0.mk hy388
       clear hy388
       have H' := Aside0.mk H
       clear H
       go_wp2_with (first | ((with_reducible refine gate_callee (f := 84) rfl ?_); refine goesL_ (some 16) rfl rfl Try.func84 Z9 rfl #[.pointer (some ⟨g, 0, none⟩)] rfl Z12 ?_; (with_reducible refine (spec_l04Some.calls k1 g s0_0 x1001_1 x1002_1 t369 t370 t371 t372 t373 t374 t375 w0 _ ?side1 ?side2 A7.out).mono ?_); (case side1 => exact Z39); (case side2 => exact Z40); rintro e w14 ⟨rfl, hi, hb, hk⟩; refine ⟨_, rfl, ?_⟩; replace HO_3 := Z (Kd.R_mono (Kd.R_keep (IsS97.apart (show IsS97 w0 _ g s0_0 x1001_1 x1002_1 from Z39) (Z7 HO_3) (by decide)) hk (fun _ h => h.2)) (fun _ h => h.1)); replace HK := Z (KeepBut.trans Z41 hk (.inl rfl)); replace HB := Z (hb); replace HI0 := Z (hi); (try clear hb); (try clear hb2); (try clear hk); (try clear hi)) | ((with_reducible refine gate_callee (f := 83) rfl ?_); refine goesL_ (some 17) rfl rfl Try.func83 Z9 rfl #[.agg #[.int .i64 t369, .string t370, .int .i32 t371, .bool t372, .int .u32 t373]] rfl Z12 ?_; (with_reducible refine (spec_CellsOf.calls k1 t369 t370 t371 t372 t373 t376 _ A8.out).mono ?_); rintro e w15 ⟨v377, rfl, ho0, hb⟩; refine ⟨_, rfl, ?_⟩; have HO378 := Z (Kd.R_lower (Kd.R_new' ho0 (Kd.R_lt (Z7 HO_3))) (keep_size (w := w) (g := g) (row := none) Z41)); replace HO_3 := Z (Kd.R_elder' (Z7 HO_3) (Kd.R_base ho0) hb); replace HK := Z (KeepBut.trans Z41 (KeepBut.of_below hb g none) (.inl rfl)); replace HB := Z (below_step Z40 hb); replace HI0 := Z (IsS97.below Z39 hb); (try clear hb); (try clear hb2); (try clear hk); (try clear hi); (try clear ho0); obtain ⟨Ao17, co17, eo17⟩ := Kd.R_slice HO378.out; subst eo17) | ((with_reducible refine gate_builtin (b := .append) (xs := #[.tmp 14, .tmp 17]) rfl ?_); at_builtin; refine Kd.R_append_rows (Kd.int .u32) w.heap.size rfl (.tmp 14) (.tmp 17) 24 47 (.int .u32 0) 4 rfl Try.underlying24 info47 rfl (by decide) (by omega) u3 x3_1 t376 _ _ _ (fun k_ => some k_ ≠ (.slice Ao17 t376.length co17 : Value).ownBlock) (fun _ => False) rfl rfl ?aO ?aR (fun _ _ h => h) (fun _ h => h.elim) ?aF (Below.refl _ _) ?aS ?aL ?_; (case aR => exact (Z13 HO378)); (case aF => exact (fun k_ hk => Kd.fresh' (Kd.R_lt (Z7 HO378)) k_ hk)); (case aO => exact (Z18 HO_3)); (case aS => exact (keep_size (w := w) (g := g) (row := none) Z41)); (case aL => have := LMc9.out; omega); intro v380 w16 ho hb hg hat; rw [← Ny379.out] at ho; replace HO378 := Z (Kd.R_after (ok := (fun _ => True)) (Z7 HO378) hg hat); replace HB := Z (below_weaken Z40 HL.out hb); replace HI0 := Z (IsS97.grown Z39 hg (IsS97.own_ne HI0.out HO_3.out (by decide))); replace HK := Z (KeepBut.trans Z41 (KeepBut.of_grown hg g) (Kd.R_base2 HO_3.out)); have HO381 := Z (ho); clear HO_3; clear ho hb hg hat) | ((with_reducible refine gate_callee (f := 73) rfl ?_); refine goesL_ (some 20) rfl rfl Try.func73 Z9 rfl #[.pointer (some ⟨g, 0, none⟩), .int .i64 9] rfl Z12 ?_; (with_reducible refine (spec_l01Below.calls g s0_0 t374 t375 9 t382 t383 t384 w0 _ ?side1 ?side2 A10.out).mono ?_); (case side1 => exact Z39); (case side2 => exact Z40); rintro e w18 ⟨rfl, hi, hb, hk⟩; refine ⟨_, rfl, ?_⟩; replace HO378 := Z (Kd.R_mono (Kd.R_keep (IsS97.apart (show IsS97 w0 _ g s0_0 t374 t375 from Z39) (Z7 HO378) (by decide)) hk (fun _ h => h.2)) (fun _ h => h.1)); replace HO381 := Z (Kd.R_mono (Kd.R_keep (IsS97.apart (show IsS97 w0 _ g s0_0 t374 t375 from Z39) (Z7 HO381) (by decide)) hk (fun _ h => h.2)) (fun _ h => h.1)); replace HK := Z (KeepBut.trans Z41 hk (.inl rfl)); replace HB := Z (hb); replace HI0 := Z (hi); (try clear hb); (try clear hb2); (try clear hk); (try clear hi)) | ((with_reducible refine gate_callee (f := 85) rfl ?_); refine goesL_ (some 25) rfl rfl Try.func85 Z9 rfl #[.pointer (some ⟨g, 0, none⟩)] rfl Z12 ?_; (with_reducible refine (spec_l01Word.calls g s0_0 t383 t384 t385 t386 t387 w0 _ ?side1 ?side2 A12.out).mono ?_); (case side1 => exact Z39); (case side2 => exact Z40); rintro e w19 ⟨rfl, hi, hb, hk⟩; refine ⟨_, rfl, ?_⟩; replace HO378 := Z (Kd.R_mono (Kd.R_keep (IsS97.apart (show IsS97 w0 _ g s0_0 t383 t384 from Z39) (Z7 HO378) (by decide)) hk (fun _ h => h.2)) (fun _ h => h.1)); replace HO381 := Z (Kd.R_mono (Kd.R_keep (IsS97.apart (show IsS97 w0 _ g s0_0 t383 t384 from Z39) (Z7 HO381) (by decide)) hk (fun _ h => h.2)) (fun _ h => h.1)); replace HK := Z (KeepBut.trans Z41 hk (.inl rfl)); replace HB := Z (hb); replace HI0 := Z (hi); (try clear hb); (try clear hb2); (try clear hk); (try clear hi)) | ((with_reducible refine gate_builtin (b := .append) (xs := #[.tmp 23, .tmp 26]) rfl ?_); at_builtin; refine Kd.R_append (Kd.int .u32) w.heap.size rfl (.tmp 23) (.tmp 26) 24 47 (.int .u32 0) 4 rfl Try.underlying24 info47 rfl (by decide) (by omega) v380 y379 t385 [.int .u32 t385] (fun k_ => some k_ ≠ (.slice Ao17 t376.length co17 : Value).ownBlock) (fun _ => False) rfl rfl ?aP (fun _ hk => hk.elim) ?aF ?aO (Below.refl _ _) ?aS ?aL ?_; (case aP => exact rfl); (case aF => exact (fun k_ hk => Kd.fresh' (Kd.R_lt (Z7 HO378)) k_ hk)); (case aO => exact (Z7 HO381)); (case aS => exact (keep_size (w := w) (g := g) (row := none) Z41)); (case aL => have := LMc13.out; omega); intro v389 w20 ho hb hg hat; rw [← Ny388.out] at ho; replace HO378 := Z (Kd.R_after (ok := (fun _ => True)) (Z7 HO378) hg hat); replace HB := Z (below_weaken Z40 HL.out hb); replace HI0 := Z (IsS97.grown Z39 hg (IsS97.own_ne HI0.out HO381.out (by decide))); replace HK := Z (KeepBut.trans Z41 (KeepBut.of_grown hg g) (Kd.R_base2 HO381.out)); have HO390 := Z (ho); clear HO381; clear ho hb hg hat))
       go_roundg k1
       case measure => have := HK1.out; omega
       case rel => exact ⟨(y388), (wrap64 (x5_1 + 1)), (t386), (t387), Z0, H', ⟨Z3⟩, ⟨(Z17 HO390)⟩, ⟨Z39⟩, ⟨Z41⟩, ⟨Z40⟩⟩
      ·rw [if_neg c13] at H
       exact absurd H (by simp)
     ·rw [if_neg c11] at H
      have c11b0 : (t382 == 0) = false := beq_eq_false_iff_ne.mpr c11
      have c11b1 : (t382 != 0) = true := bne_iff_ne.mpr c11
      by_cases c21 : t382 = 1
      ·rw [if_pos c21] at H
       have c21b0 : (t382 == 1) = true := beq_iff_eq.mpr c21
       have c21b1 : (t382 != 1) = false := bne_eq_false_iff_eq.mpr c21
       clear c21
       by_cases c22 : y379.length < 35184372088832
       ·rw [if_pos c22] at H
        have LMc22 := Aside0.mk c22
        clear c22
        obtain ⟨y391, hy391⟩ : ∃ y_ : List Int, y_ = (y379 ++ [0]) := ⟨_, rfl⟩
        replace H : (spec_l04Cells.l0 k1 y391 t360 (wrap64 (x5_1 + 1)) s0_0 t383 t384) = some (r1, r2, r3) := by first | (rw [hy391]; with_reducible exact H) | (have H2_ := (Option.bind_some _ _).symm.trans H; rw [hy391]; with_reducible exact H2_) | (have H2_ := (Option.bind_some _ _).symm.trans H; with_reducible exact H2_) | with_reducible exact H | (rw [hy391]; exact H) | exact H
        have Ny391 := Aside0.mk hy391
        clear hy391
        have H' := Aside0.mk H
        clear H
        go_wp2_with (first | ((with_reducible refine gate_callee (f := 84) rfl ?_); refine goesL_ (some 16) rfl rfl Try.func84 Z9 rfl #[.pointer (some ⟨g, 0, none⟩)] rfl Z12 ?_; (with_reducible refine (spec_l04Some.calls k1 g s0_0 x1001_1 x1002_1 t369 t370 t371 t372 t373 t374 t375 w0 _ ?side1 ?side2 A7.out).mono ?_); (case side1 => exact Z39); (case side2 => exact Z40); rintro e w23 ⟨rfl, hi, hb, hk⟩; refine ⟨_, rfl, ?_⟩; replace HO_3 := Z (Kd.R_mono (Kd.R_keep (IsS97.apart (show IsS97 w0 _ g s0_0 x1001_1 x1002_1 from Z39) (Z7 HO_3) (by decide)) hk (fun _ h => h.2)) (fun _ h => h.1)); replace HK := Z (KeepBut.trans Z41 hk (.inl rfl)); replace HB := Z (hb); replace HI0 := Z (hi); (try clear hb); (try clear hb2); (try clear hk); (try clear hi)) | ((with_reducible refine gate_callee (f := 83) rfl ?_); refine goesL_ (some 17) rfl rfl Try.func83 Z9 rfl #[.agg #[.int .i64 t369, .string t370, .int .i32 t371, .bool t372, .int .u32 t373]] rfl Z12 ?_; (with_reducible refine (spec_CellsOf.calls k1 t369 t370 t371 t372 t373 t376 _ A8.out).mono ?_); rintro e w24 ⟨v377, rfl, ho0, hb⟩; refine ⟨_, rfl, ?_⟩; have HO378 := Z (Kd.R_lower (Kd.R_new' ho0 (Kd.R_lt (Z7 HO_3))) (keep_size (w := w) (g := g) (row := none) Z41)); replace HO_3 := Z (Kd.R_elder' (Z7 HO_3) (Kd.R_base ho0) hb); replace HK := Z (KeepBut.trans Z41 (KeepBut.of_below hb g none) (.inl rfl)); replace HB := Z (below_step Z40 hb); replace HI0 := Z (IsS97.below Z39 hb); (try clear hb); (try clear hb2); (try clear hk); (try clear hi); (try clear ho0); obtain ⟨Ao26, co26, eo26⟩ := Kd.R_slice HO378.out; subst eo26) | ((with_reducible refine gate_builtin (b := .append) (xs := #[.tmp 14, .tmp 17]) rfl ?_); at_builtin; refine Kd.R_append_rows (Kd.int .u32) w.heap.size rfl (.tmp 14) (.tmp 17) 24 47 (.int .u32 0) 4 rfl Try.underlying24 info47 rfl (by decide) (by omega) u3 x3_1 t376 _ _ _ (fun k_ => some k_ ≠ (.slice Ao26 t376.length co26 : Value).ownBlock) (fun _ => False) rfl rfl ?aO ?aR (fun _ _ h => h) (fun _ h => h.elim) ?aF (Below.refl _ _) ?aS ?aL ?_; (case aR => exact (Z13 HO378)); (case aF => exact (fun k_ hk => Kd.fresh' (Kd.R_lt (Z7 HO378)) k_ hk)); (case aO => exact (Z18 HO_3)); (case aS => exact (keep_size (w := w) (g := g) (row := none) Z41)); (case aL => have := LMc9.out; omega); intro v380 w25 ho hb hg hat; rw [← Ny379.out] at ho; replace HO378 := Z (Kd.R_after (ok := (fun _ => True)) (Z7 HO378) hg hat); replace HB := Z (below_weaken Z40 HL.out hb); replace HI0 := Z (IsS97.grown Z39 hg (IsS97.own_ne HI0.out HO_3.out (by decide))); replace HK := Z (KeepBut.trans Z41 (KeepBut.of_grown hg g) (Kd.R_base2 HO_3.out)); have HO381 := Z (ho); clear HO_3; clear ho hb hg hat) | ((with_reducible refine gate_callee (f := 73) rfl ?_); refine goesL_ (some 20) rfl rfl Try.func73 Z9 rfl #[.pointer (some ⟨g, 0, none⟩), .int .i64 9] rfl Z12 ?_; (with_reducible refine (spec_l01Below.calls g s0_0 t374 t375 9 t382 t383 t384 w0 _ ?side1 ?side2 A10.out).mono ?_); (case side1 => exact Z39); (case side2 => exact Z40); rintro e w27 ⟨rfl, hi, hb, hk⟩; refine ⟨_, rfl, ?_⟩; replace HO378 := Z (Kd.R_mono (Kd.R_keep (IsS97.apart (show IsS97 w0 _ g s0_0 t374 t375 from Z39) (Z7 HO378) (by decide)) hk (fun _ h => h.2)) (fun _ h => h.1)); replace HO381 := Z (Kd.R_mono (Kd.R_keep (IsS97.apart (show IsS97 w0 _ g s0_0 t374 t375 from Z39) (Z7 HO381) (by decide)) hk (fun _ h => h.2)) (fun _ h => h.1)); replace HK := Z (KeepBut.trans Z41 hk (.inl rfl)); replace HB := Z (hb); replace HI0 := Z (hi); (try clear hb); (try clear hb2); (try clear hk); (try clear hi)) | ((with_reducible refine gate_builtin (b := .append) (xs := #[.tmp 30, .tmp 31]) rfl ?_); at_builtin; refine Kd.R_append (Kd.int .u32) w.heap.size rfl (.tmp 30) (.tmp 31) 24 47 (.int .u32 0) 4 rfl Try.underlying24 info47 rfl (by decide) (by omega) v380 y379 0 [.int .u32 0] (fun k_ => some k_ ≠ (.slice Ao26 t376.length co26 : Value).ownBlock) (fun _ => False) rfl rfl ?aP (fun _ hk => hk.elim) ?aF ?aO (Below.refl _ _) ?aS ?aL ?_; (case aP => exact rfl); (case aF => exact (fun k_ hk => Kd.fresh' (Kd.R_lt (Z7 HO378)) k_ hk)); (case aO => exact (Z7 HO381)); (case aS => exact (keep_size (w := w) (g := g) (row := none) Z41)); (case aL => have := LMc22.out; omega); intro v392 w28 ho hb hg hat; rw [← Ny391.out] at ho; replace HO378 := Z (Kd.R_after (ok := (fun _ => True)) (Z7 HO378) hg hat); replace HB := Z (below_weaken Z40 HL.out hb); replace HI0 := Z (IsS97.grown Z39 hg (IsS97.own_ne HI0.out HO381.out (by decide))); replace HK := Z (KeepBut.trans Z41 (KeepBut.of_grown hg g) (Kd.R_base2 HO381.out)); have HO393 := Z (ho); clear HO381; clear ho hb hg hat))
        go_roundg k1
        case measure => have := HK1.out; omega
        case rel => exact ⟨(y391), (wrap64 (x5_1 + 1)), (t383), (t384), Z0, H', ⟨Z3⟩, ⟨(Z17 HO393)⟩, ⟨Z39⟩, ⟨Z41⟩, ⟨Z40⟩⟩
       ·rw [if_neg c22] at H
        exact absurd H (by simp)
      ·rw [if_neg c21] at H
       have c21b0 : (t382 == 1) = false := beq_eq_false_iff_ne.mpr c21
       have c21b1 : (t382 != 1) = true := bne_iff_ne.mpr c21
       by_cases c29 : t382 = 2
       ·rw [if_pos c29] at H
        have c29b0 : (t382 == 2) = true := beq_iff_eq.mpr c29
        have c29b1 : (t382 != 2) = false := bne_eq_false_iff_eq.mpr c29
        clear c29
        replace H := Option.bind_eq_some_iff.mp H
        obtain ⟨⟨t394, t395, t396⟩, A300, H⟩ := H
        replace H : (if y379.length < 35184372088832 then (spec_l04Cells.l0 k1 (y379 ++ [(((t394) % 4294967296) * 16) % 4294967296]) t360 (wrap64 (x5_1 + 1)) s0_0 t395 t396) else (none)) = some (r1, r2, r3) := H
        have A30 := Aside0.mk A300
        clear A300
        by_cases c31 : y379.length < 35184372088832
        ·rw [if_pos c31] at H
         have LMc31 := Aside0.mk c31
         clear c31
         obtain ⟨y397, hy397⟩ : ∃ y_ : List Int, y_ = (y379 ++ [(((t394) % 4294967296) * 16) % 4294967296]) := ⟨_, rfl⟩
         replace H : (spec_l04Cells.l0 k1 y397 t360 (wrap64 (x5_1 + 1)) s0_0 t395 t396) = some (r1, r2, r3) := by first | (rw [hy397]; with_reducible exact H) | (have H2_ := (Option.bind_some _ _).symm.trans H; rw [hy397]; with_reducible exact H2_) | (have H2_ := (Option.bind_some _ _).symm.trans H; with_reducible exact H2_) | with_reducible exact H | (rw [hy397]; exact H) | exact H
         have Ny397 := Aside0.mk hy397
         clear hy397
         have H' := Aside0.mk H
         clear H
         go_wp2_with (first | ((with_reducible refine gate_callee (f := 84) rfl ?_); refine goesL_ (some 16) rfl rfl Try.func84 Z9 rfl #[.pointer (some ⟨g, 0, none⟩)] rfl Z12 ?_; (with_reducible refine (spec_l04Some.calls k1 g s0_0 x1001_1 x1002_1 t369 t370 t371 t372 t373 t374 t375 w0 _ ?side1 ?side2 A7.out).mono ?_); (case side1 => exact Z39); (case side2 => exact Z40); rintro e w32 ⟨rfl, hi, hb, hk⟩; refine ⟨_, rfl, ?_⟩; replace HO_3 := Z (Kd.R_mono (Kd.R_keep (IsS97.apart (show IsS97 w0 _ g s0_0 x1001_1 x1002_1 from Z39) (Z7 HO_3) (by decide)) hk (fun _ h => h.2)) (fun _ h => h.1)); replace HK := Z (KeepBut.trans Z41 hk (.inl rfl)); replace HB := Z (hb); replace HI0 := Z (hi); (try clear hb); (try clear hb2); (try clear hk); (try clear hi)) | ((with_reducible refine gate_callee (f := 83) rfl ?_); refine goesL_ (some 17) rfl rfl Try.func83 Z9 rfl #[.agg #[.int .i64 t369, .string t370, .int .i32 t371, .bool t372, .int .u32 t373]] rfl Z12 ?_; (with_reducible refine (spec_CellsOf.calls k1 t369 t370 t371 t372 t373 t376 _ A8.out).mono ?_); rintro e w33 ⟨v377, rfl, ho0, hb⟩; refine ⟨_, rfl, ?_⟩; have HO378 := Z (Kd.R_lower (Kd.R_new' ho0 (Kd.R_lt (Z7 HO_3))) (keep_size (w := w) (g := g) (row := none) Z41)); replace HO_3 := Z (Kd.R_elder' (Z7 HO_3) (Kd.R_base ho0) hb); replace HK := Z (KeepBut.trans Z41 (KeepBut.of_below hb g none) (.inl rfl)); replace HB := Z (below_step Z40 hb); replace HI0 := Z (IsS97.below Z39 hb); (try clear hb); (try clear hb2); (try clear hk); (try clear hi); (try clear ho0); obtain ⟨Ao35, co35, eo35⟩ := Kd.R_slice HO378.out; subst eo35) | ((with_reducible refine gate_builtin (b := .append) (xs := #[.tmp 14, .tmp 17]) rfl ?_); at_builtin; refine Kd.R_append_rows (Kd.int .u32) w.heap.size rfl (.tmp 14) (.tmp 17) 24 47 (.int .u32 0) 4 rfl Try.underlying24 info47 rfl (by decide) (by omega) u3 x3_1 t376 _ _ _ (fun k_ => some k_ ≠ (.slice Ao35 t376.length co35 : Value).ownBlock) (fun _ => False) rfl rfl ?aO ?aR (fun _ _ h => h) (fun _ h => h.elim) ?aF (Below.refl _ _) ?aS ?aL ?_; (case aR => exact (Z13 HO378)); (case aF => exact (fun k_ hk => Kd.fresh' (Kd.R_lt (Z7 HO378)) k_ hk)); (case aO => exact (Z18 HO_3)); (case aS => exact (keep_size (w := w) (g := g) (row := none) Z41)); (case aL => have := LMc9.out; omega); intro v380 w34 ho hb hg hat; rw [← Ny379.out] at ho; replace HO378 := Z (Kd.R_after (ok := (fun _ => True)) (Z7 HO378) hg hat); replace HB := Z (below_weaken Z40 HL.out hb); replace HI0 := Z (IsS97.grown Z39 hg (IsS97.own_ne HI0.out HO_3.out (by decide))); replace HK := Z (KeepBut.trans Z41 (KeepBut.of_grown hg g) (Kd.R_base2 HO_3.out)); have HO381 := Z (ho); clear HO_3; clear ho hb hg hat) | ((with_reducible refine gate_callee (f := 73) rfl ?_); refine goesL_ (some 20) rfl rfl Try.func73 Z9 rfl #[.pointer (some ⟨g, 0, none⟩), .int .i64 9] rfl Z12 ?_; (with_reducible refine (spec_l01Below.calls g s0_0 t374 t375 9 t382 t383 t384 w0 _ ?side1 ?side2 A10.out).mono ?_); (case side1 => exact Z39); (case side2 => exact Z40); rintro e w36 ⟨rfl, hi, hb, hk⟩; refine ⟨_, rfl, ?_⟩; replace HO378 := Z (Kd.R_mono (Kd.R_keep (IsS97.apart (show IsS97 w0 _ g s0_0 t374 t375 from Z39) (Z7 HO378) (by decide)) hk (fun _ h => h.2)) (fun _ h => h.1)); replace HO381 := Z (Kd.R_mono (Kd.R_keep (IsS97.apart (show IsS97 w0 _ g s0_0 t374 t375 from Z39) (Z7 HO381) (by decide)) hk (fun _ h => h.2)) (fun _ h => h.1)); replace HK := Z (KeepBut.trans Z41 hk (.inl rfl)); replace HB := Z (hb); replace HI0 := Z (hi); (try clear hb); (try clear hb2); (try clear hk); (try clear hi)) | ((with_reducible refine gate_callee (f := 73) rfl ?_); refine goesL_ (some 37) rfl rfl Try.func73 Z9 rfl #[.pointer (some ⟨g, 0, none⟩), .int .i64 4096] rfl Z12 ?_; (with_reducible refine (spec_l01Below.calls g s0_0 t383 t384 4096 t394 t395 t396 w0 _ ?side1 ?side2 A30.out).mono ?_); (case side1 => exact Z39); (case side2 => exact Z40); rintro e w37 ⟨rfl, hi, hb, hk⟩; refine ⟨_, rfl, ?_⟩; replace HO378 := Z (Kd.R_mono (Kd.R_keep (IsS97.apart (show IsS97 w0 _ g s0_0 t383 t384 from Z39) (Z7 HO378) (by decide)) hk (fun _ h => h.2)) (fun _ h => h.1)); replace HO381 := Z (Kd.R_mono (Kd.R_keep (IsS97.apart (show IsS97 w0 _ g s0_0 t383 t384 from Z39) (Z7 HO381) (by decide)) hk (fun _ h => h.2)) (fun _ h => h.1)); replace HK := Z (KeepBut.trans Z41 hk (.inl rfl)); replace HB := Z (hb); replace HI0 := Z (hi); (try clear hb); (try clear hb2); (try clear hk); (try clear hi)) | ((with_reducible refine gate_builtin (b := .append) (xs := #[.tmp 35, .tmp 40]) rfl ?_); at_builtin; refine Kd.R_append (Kd.int .u32) w.heap.size rfl (.tmp 35) (.tmp 40) 24 47 (.int .u32 0) 4 rfl Try.underlying24 info47 rfl (by decide) (by omega) v380 y379 ((((t394) % 4294967296) * 16) % 4294967296) [.int .u32 ((((t394) % 4294967296) * 16) % 4294967296)] (fun k_ => some k_ ≠ (.slice Ao35 t376.length co35 : Value).ownBlock) (fun _ => False) rfl rfl ?aP (fun _ hk => hk.elim) ?aF ?aO (Below.refl _ _) ?aS ?aL ?_; (case aP => exact rfl); (case aF => exact (fun k_ hk => Kd.fresh' (Kd.R_lt (Z7 HO378)) k_ hk)); (case aO => exact (Z7 HO381)); (case aS => exact (keep_size (w := w) (g := g) (row := none) Z41)); (case aL => have := LMc31.out; omega); intro v398 w38 ho hb hg hat; rw [← Ny397.out] at ho; replace HO378 := Z (Kd.R_after (ok := (fun _ => True)) (Z7 HO378) hg hat); replace HB := Z (below_weaken Z40 HL.out hb); replace HI0 := Z (IsS97.grown Z39 hg (IsS97.own_ne HI0.out HO381.out (by decide))); replace HK := Z (KeepBut.trans Z41 (KeepBut.of_grown hg g) (Kd.R_base2 HO381.out)); have HO399 := Z (ho); clear HO381; clear ho hb hg hat))
         go_roundg k1
         case measure => have := HK1.out; omega
         case rel => exact ⟨(y397), (wrap64 (x5_1 + 1)), (t395), (t396), Z0, H', ⟨Z3⟩, ⟨(Z17 HO399)⟩, ⟨Z39⟩, ⟨Z41⟩, ⟨Z40⟩⟩
        ·rw [if_neg c31] at H
         exact absurd H (by simp)
       ·rw [if_neg c29] at H
        have c29b0 : (t382 == 2) = false := beq_eq_false_iff_ne.mpr c29
        have c29b1 : (t382 != 2) = true := bne_iff_ne.mpr c29
        by_cases c39 : t382 = 3
        ·rw [if_pos c39] at H
         have c39b0 : (t382 == 3) = true := beq_iff_eq.mpr c39
         have c39b1 : (t382 != 3) = false := bne_eq_false_iff_eq.mpr c39
         clear c39
         obtain ⟨y400, hy400⟩ : ∃ y_ : List Int, y_ = (([2, 18, 5, 34, 12] : List Int)) := ⟨_, rfl⟩
         replace H : ((spec_l01PickInt.f s0_0 t383 t384 y400).bind fun bt403 => (if y379.length < 35184372088832 then (spec_l04Cells.l0 k1 (y379 ++ [(bt403.1) % 4294967296]) t360 (wrap64 (x5_1 + 1)) s0_0 bt403.2.1 bt403.2.2) else (none))) = some (r1, r2, r3) := by first | (rw [hy400]; with_reducible exact H) | (have H2_ := (Option.bind_some _ _).symm.trans H; rw [hy400]; with_reducible exact H2_) | (have H2_ := (Option.bind_some _ _).symm.trans H; with_reducible exact H2_) | with_reducible exact H | (rw [hy400]; exact H) | exact H
         have Ny400 := Aside0.mk hy400
         clear hy400
         replace H := Option.bind_eq_some_iff.mp H
         obtain ⟨⟨t403, t404, t405⟩, A400, H⟩ := H
         replace H : (if y379.length < 35184372088832 then (spec_l04Cells.l0 k1 (y379 ++ [(t403) % 4294967296]) t360 (wrap64 (x5_1 + 1)) s0_0 t404 t405) else (none)) = some (r1, r2, r3) := H
         have A40 := Aside0.mk A400
         clear A400
         by_cases c41 : y379.length < 35184372088832
         ·rw [if_pos c41] at H
          have LMc41 := Aside0.mk c41
          clear c41
          obtain ⟨y406, hy406⟩ : ∃ y_ : List Int, y_ = (y379 ++ [(t403) % 4294967296]) := ⟨_, rfl⟩
          replace H : (spec_l04Cells.l0 k1 y406 t360 (wrap64 (x5_1 + 1)) s0_0 t404 t405) = some (r1, r2, r3) := by first | (rw [hy406]; with_reducible exact H) | (have H2_ := (Option.bind_some _ _).symm.trans H; rw [hy406]; with_reducible exact H2_) | (have H2_ := (Option.bind_some _ _).symm.trans H; with_reducible exact H2_) | with_reducible exact H | (rw [hy406]; exact H) | exact H
          have Ny406 := Aside0.mk hy406
          clear hy406
          have H' := Aside0.mk H
          clear H
          go_wp2_with (first | ((with_reducible refine gate_callee (f := 84) rfl ?_); refine goesL_ (some 16) rfl rfl Try.func84 Z9 rfl #[.pointer (some ⟨g, 0, none⟩)] rfl Z12 ?_; (with_reducible refine (spec_l04Some.calls k1 g s0_0 x1001_1 x1002_1 t369 t370 t371 t372 t373 t374 t375 w0 _ ?side1 ?side2 A7.out).mono ?_); (case side1 => exact Z39); (case side2 => exact Z40); rintro e w42 ⟨rfl, hi, hb, hk⟩; refine ⟨_, rfl, ?_⟩; replace HO_3 := Z (Kd.R_mono (Kd.R_keep (IsS97.apart (show IsS97 w0 _ g s0_0 x1001_1 x1002_1 from Z39) (Z7 HO_3) (by decide)) hk (fun _ h => h.2)) (fun _ h => h.1)); replace HK := Z (KeepBut.trans Z41 hk (.inl rfl)); replace HB := Z (hb); replace HI0 := Z (hi); (try clear hb); (try clear hb2); (try clear hk); (try clear hi)) | ((with_reducible refine gate_callee (f := 83) rfl ?_); refine goesL_ (some 17) rfl rfl Try.func83 Z9 rfl #[.agg #[.int .i64 t369, .string t370, .int .i32 t371, .bool t372, .int .u32 t373]] rfl Z12 ?_; (with_reducible refine (spec_CellsOf.calls k1 t369 t370 t371 t372 t373 t376 _ A8.out).mono ?_); rintro e w43 ⟨v377, rfl, ho0, hb⟩; refine ⟨_, rfl, ?_⟩; have HO378 := Z (Kd.R_lower (Kd.R_new' ho0 (Kd.R_lt (Z7 HO_3))) (keep_size (w := w) (g := g) (row := none) Z41)); replace HO_3 := Z (Kd.R_elder' (Z7 HO_3) (Kd.R_base ho0) hb); replace HK := Z (KeepBut.trans Z41 (KeepBut.of_below hb g none) (.inl rfl)); replace HB := Z (below_step Z40 hb); replace HI0 := Z (IsS97.below Z39 hb); (try clear hb); (try clear hb2); (try clear hk); (try clear hi); (try clear ho0); obtain ⟨Ao45, co45, eo45⟩ := Kd.R_slice HO378.out; subst eo45) | ((with_reducible refine gate_builtin (b := .append) (xs := #[.tmp 14, .tmp 17]) rfl ?_); at_builtin; refine Kd.R_append_rows (Kd.int .u32) w.heap.size rfl (.tmp 14) (.tmp 17) 24 47 (.int .u32 0) 4 rfl Try.underlying24 info47 rfl (by decide) (by omega) u3 x3_1 t376 _ _ _ (fun k_ => some k_ ≠ (.slice Ao45 t376.length co45 : Value).ownBlock) (fun _ => False) rfl rfl (by exact (Z18 HO_3)) (Z13 HO378) (fun _ _ h => h) (fun _ h => h.elim) (by exact (fun k_ hk => Kd.fresh' (Kd.R_lt (Z7 HO378)) k_ hk)) (Below.refl _ _) (keep_size (w := w) (g := g) (row := none) Z41) (by have := LMc9.out; omega) ?_; intro v380 w44 ho hb hg hat; rw [← Ny379.out] at ho; replace HO378 := Z (Kd.R_after (ok := (fun _ => True)) (Z7 HO378) hg hat); replace HB := Z (below_weaken Z40 HL.out hb); replace HI0 := Z (IsS97.grown Z39 hg (IsS97.own_ne HI0.out HO_3.out (by decide))); replace HK := Z (KeepBut.trans Z41 (KeepBut.of_grown hg g) (Kd.R_base2 HO_3.out)); have HO381 := Z (ho); clear HO_3; clear ho hb hg hat) | ((with_reducible refine gate_callee (f := 73) rfl ?_); refine goesL_ (some 20) rfl rfl Try.func73 Z9 rfl #[.pointer (some ⟨g, 0, none⟩), .int .i64 9] rfl Z12 ?_; (with_reducible refine (spec_l01Below.calls g s0_0 t374 t375 9 t382 t383 t384 w0 _ ?side1 ?side2 A10.out).mono ?_); (case side1 => exact Z39); (case side2 => exact Z40); rintro e w46 ⟨rfl, hi, hb, hk⟩; refine ⟨_, rfl, ?_⟩; replace HO378 := Z (Kd.R_mono (Kd.R_keep (IsS97.apart (show IsS97 w0 _ g s0_0 t374 t375 from Z39) (Z7 HO378) (by decide)) hk (fun _ h => h.2)) (fun _ h => h.1)); replace HO381 := Z (Kd.R_mono (Kd.R_keep (IsS97.apart (show IsS97 w0 _ g s0_0 t374 t375 from Z39) (Z7 HO381) (by decide)) hk (fun _ h => h.2)) (fun _ h => h.1)); replace HK := Z (KeepBut.trans Z41 hk (.inl rfl)); replace HB := Z (hb); replace HI0 := Z (hi); (try clear hb); (try clear hb2); (try clear hk); (try clear hi)) | ((with_reducible refine gate_dst (N := 46) rfl ?_); refine Kd.R_lit (Kd.int .i64) _ 3 (by rfl) (N := 46) (by rfl) (xs := ([2, 18, 5, 34, 12] : List Int)) (inner := [.int .i64 2, .int .i64 18, .int .i64 5, .int .i64 34, .int .i64 12]) (ok := fun _ => True) (okp := fun _ => True) Z4 (Reps.one (show Kd.M (Kd.int .i64) _ _ _ 2 [.int .i64 2] from rfl) (Reps.one (show Kd.M (Kd.int .i64) _ _ _ 18 [.int .i64 18] from rfl) (Reps.one (show Kd.M (Kd.int .i64) _ _ _ 5 [.int .i64 5] from rfl) (Reps.one (show Kd.M (Kd.int .i64) _ _ _ 34 [.int .i64 34] from rfl) (Reps.one (show Kd.M (Kd.int .i64) _ _ _ 12 [.int .i64 12] from rfl) (Reps.none _ _)))))) (fun _ hk => hk) trivial (Below.refl _ _) (Nat.le_refl _) (by simp) ?_; intro v401 w47 ho48 hb hg_ hnew_; clear hg_ hnew_; (first | rw [← Ny400.out] at ho48 | (simp only [Int.reduceToNat] at ho48; rw [← Ny400.out] at ho48)); replace HO378 := Z (Kd.R_below (Z7 HO378) hb); replace HO381 := Z (Kd.R_below (Z7 HO381) hb); have HO402 := Z (Kd.R_lower ho48 (keep_size (w := w) (g := g) (row := none) Z41)); replace HK := Z (KeepBut.trans Z41 (KeepBut.of_below hb g none) (.inl rfl)); replace HB := Z (below_step Z40 hb); replace HI0 := Z (IsS97.below Z39 hb); clear hb ho48; obtain ⟨Ao49, co49, eo49⟩ := Kd.R_slice HO402.out; subst eo49) | ((with_reducible refine gate_callee (f := 86) rfl ?_); refine goesL_ (some 47) rfl rfl Try.func86 Z9 rfl #[.pointer (some ⟨g, 0, none⟩), .slice Ao49 y400.length co49] rfl Z12 ?_; (with_reducible refine (spec_l01PickInt.calls g s0_0 t383 t384 _ _ y400 t403 t404 t405 w0 _ ?side1 ?side2 ?side3 ?side4 ?side5 A40.out).mono ?_); (case side1 => exact Z39); (case side2 => exact Z40); (case side3 => exact (Z13 HO402)); (case side4 => exact (Kd.R_reads' HO402.out).2.1); (case side5 => exact far_slice (IsS97.own_ne HI0.out HO402.out (by decide))); rintro e w50 ⟨rfl, hi, hb, hk⟩; refine ⟨_, rfl, ?_⟩; replace HO378 := Z (Kd.R_mono (Kd.R_keep (IsS97.apart (show IsS97 w0 _ g s0_0 t383 t384 from Z39) (Z7 HO378) (by decide)) hk (fun _ h => h.2)) (fun _ h => h.1)); replace HO381 := Z (Kd.R_mono (Kd.R_keep (IsS97.apart (show IsS97 w0 _ g s0_0 t383 t384 from Z39) (Z7 HO381) (by decide)) hk (fun _ h => h.2)) (fun _ h => h.1)); replace HO402 := Z (Kd.R_mono (Kd.R_keep (IsS97.apart (show IsS97 w0 _ g s0_0 t383 t384 from Z39) (Z7 HO402) (by decide)) hk (fun _ h => h.2)) (fun _ h => h.1)); replace HK := Z (KeepBut.trans Z41 hk (.inl rfl)); replace HB := Z (hb); replace HI0 := Z (hi); (try clear hb); (try clear hb2); (try clear hk); (try clear hi)) | ((with_reducible refine gate_builtin (b := .append) (xs := #[.tmp 44, .tmp 49]) rfl ?_); at_builtin; refine Kd.R_append (Kd.int .u32) w.heap.size rfl (.tmp 44) (.tmp 49) 24 47 (.int .u32 0) 4 rfl Try.underlying24 info47 rfl (by decide) (by omega) v380 y379 ((t403) % 4294967296) [.int .u32 ((t403) % 4294967296)] (fun k_ => some k_ ≠ (.slice Ao45 t376.length co45 : Value).ownBlock) (fun _ => False) rfl rfl ?aP (fun _ hk => hk.elim) ?aF ?aO (Below.refl _ _) ?aS ?aL ?_; (case aP => exact rfl); (case aF => exact (fun k_ hk => Kd.fresh' (Kd.R_lt (Z7 HO378)) k_ hk)); (case aO => exact (Z7 HO381)); (case aS => exact (keep_size (w := w) (g := g) (row := none) Z41)); (case aL => have := LMc41.out; omega); intro v407 w51 ho hb hg hat; rw [← Ny406.out] at ho; replace HO378 := Z (Kd.R_after (ok := (fun _ => True)) (Z7 HO378) hg hat); replace HO402 := Z (Kd.R_over' (Z7 HO402) (Kd.R_typed (Z7 HO381)) (by decide) hg); replace HB := Z (below_weaken Z40 HL.out hb); replace HI0 := Z (IsS97.grown Z39 hg (IsS97.own_ne HI0.out HO381.out (by decide))); replace HK := Z (KeepBut.trans Z41 (KeepBut.of_grown hg g) (Kd.R_base2 HO381.out)); have HO408 := Z (ho); clear HO381; clear ho hb hg hat))
          go_roundg k1
          case measure => have := HK1.out; omega
          case rel => exact ⟨(y406), (wrap64 (x5_1 + 1)), (t404), (t405), Z0, H', ⟨Z3⟩, ⟨(Z17 HO408)⟩, ⟨Z39⟩, ⟨Z41⟩, ⟨Z40⟩⟩
         ·rw [if_neg c41] at H
          exact absurd H (by simp)
        ·rw [if_neg c39] at H
         have c39b0 : (t382 == 3) = false := beq_eq_false_iff_ne.mpr c39
         have c39b1 : (t382 != 3) = true := bne_iff_ne.mpr c39
         have H' := Aside0.mk H
         clear H
         go_wp2_with (first | ((with_reducible refine gate_callee (f := 84) rfl ?_); refine goesL_ (some 16) rfl rfl Try.func84 Z9 rfl #[.pointer (some ⟨g, 0, none⟩)] rfl Z12 ?_; (with_reducible refine (spec_l04Some.calls k1 g s0_0 x1001_1 x1002_1 t369 t370 t371 t372 t373 t374 t375 w0 _ ?side1 ?side2 A7.out).mono ?_); (case side1 => exact Z39); (case side2 => exact Z40); rintro e w52 ⟨rfl, hi, hb, hk⟩; refine ⟨_, rfl, ?_⟩; replace HO_3 := Z (Kd.R_mono (Kd.R_keep (IsS97.apart (show IsS97 w0 _ g s0_0 x1001_1 x1002_1 from Z39) (Z7 HO_3) (by decide)) hk (fun _ h => h.2)) (fun _ h => h.1)); replace HK := Z (KeepBut.trans Z41 hk (.inl rfl)); replace HB := Z (hb); replace HI0 := Z (hi); (try clear hb); (try clear hb2); (try clear hk); (try clear hi)) | ((with_reducible refine gate_callee (f := 83) rfl ?_); refine goesL_ (some 17) rfl rfl Try.func83 Z9 rfl #[.agg #[.int .i64 t369, .string t370, .int .i32 t371, .bool t372, .int .u32 t373]] rfl Z12 ?_; (with_reducible refine (spec_CellsOf.calls k1 t369 t370 t371 t372 t373 t376 _ A8.out).mono ?_); rintro e w53 ⟨v377, rfl, ho0, hb⟩; refine ⟨_, rfl, ?_⟩; have HO378 := Z (Kd.R_lower (Kd.R_new' ho0 (Kd.R_lt (Z7 HO_3))) (keep_size (w := w) (g := g) (row := none) Z41)); replace HO_3 := Z (Kd.R_elder' (Z7 HO_3) (Kd.R_base ho0) hb); replace HK := Z (KeepBut.trans Z41 (KeepBut.of_below hb g none) (.inl rfl)); replace HB := Z (below_step Z40 hb); replace HI0 := Z (IsS97.below Z39 hb); (try clear hb); (try clear hb2); (try clear hk); (try clear hi); (try clear ho0); obtain ⟨Ao55, co55, eo55⟩ := Kd.R_slice HO378.out; subst eo55) | ((with_reducible refine gate_builtin (b := .append) (xs := #[.tmp 14, .tmp 17]) rfl ?_); at_builtin; refine Kd.R_append_rows (Kd.int .u32) w.heap.size rfl (.tmp 14) (.tmp 17) 24 47 (.int .u32 0) 4 rfl Try.underlying24 info47 rfl (by decide) (by omega) u3 x3_1 t376 _ _ _ (fun k_ => some k_ ≠ (.slice Ao55 t376.length co55 : Value).ownBlock) (fun _ => False) rfl rfl ?aO ?aR (fun _ _ h => h) (fun _ h => h.elim) ?aF (Below.refl _ _) ?aS ?aL ?_; (case aR => exact (Z13 HO378)); (case aF => exact (fun k_ hk => Kd.fresh' (Kd.R_lt (Z7 HO378)) k_ hk)); (case aO => exact (Z18 HO_3)); (case aS => exact (keep_size (w := w) (g := g) (row := none) Z41)); (case aL => have := LMc9.out; omega); intro v380 w54 ho hb hg hat; rw [← Ny379.out] at ho; replace HO378 := Z (Kd.R_after (ok := (fun _ => True)) (Z7 HO378) hg hat); replace HB := Z (below_weaken Z40 HL.out hb); replace HI0 := Z (IsS97.grown Z39 hg (IsS97.own_ne HI0.out HO_3.out (by decide))); replace HK := Z (KeepBut.trans Z41 (KeepBut.of_grown hg g) (Kd.R_base2 HO_3.out)); have HO381 := Z (ho); clear HO_3; clear ho hb hg hat) | ((with_reducible refine gate_callee (f := 73) rfl ?_); refine goesL_ (some 20) rfl rfl Try.func73 Z9 rfl #[.pointer (some ⟨g, 0, none⟩), .int .i64 9] rfl Z12 ?_; (with_reducible refine (spec_l01Below.calls g s0_0 t374 t375 9 t382 t383 t384 w0 _ ?side1 ?side2 A10.out).mono ?_); (case side1 => exact Z39); (case side2 => exact Z40); rintro e w56 ⟨rfl, hi, hb, hk⟩; refine ⟨_, rfl, ?_⟩; replace HO378 := Z (Kd.R_mono (Kd.R_keep (IsS97.apart (show IsS97 w0 _ g s0_0 t374 t375 from Z39) (Z7 HO378) (by decide)) hk (fun _ h => h.2)) (fun _ h => h.1)); replace HO381 := Z (Kd.R_mono (Kd.R_keep (IsS97.apart (show IsS97 w0 _ g s0_0 t374 t375 from Z39) (Z7 HO381) (by decide)) hk (fun _ h => h.2)) (fun _ h => h.1)); replace HK := Z (KeepBut.trans Z41 hk (.inl rfl)); replace HB := Z (hb); replace HI0 := Z (hi); (try clear hb); (try clear hb2); (try clear hk); (try clear hi)))
         go_roundg k1
         case measure => have := HK1.out; omega
         case rel => exact ⟨(y379), (wrap64 (x5_1 + 1)), (t383), (t384), Z0, H', ⟨Z3⟩, ⟨(Z17 HO381)⟩, ⟨Z39⟩, ⟨Z41⟩, ⟨Z40⟩⟩
    ·rw [if_neg c9] at H
     exact absurd H (by simp)
   ·rw [if_neg c6] at H
    have c6b0 : decide (x5_1 < t360) = false := decide_eq_false c6
    clear c6
    by_cases c57 : (x3_1.length : Int) > 64
    ·rw [if_pos c57] at H
     have c57b0 : decide (64 < (x3_1.length : Int)) = true := decide_eq_true c57
     have c57b1 : decide (64 < x3_1.length) = true := decide_eq_true (by omega)
     clear c57
     replace H := Option.bind_eq_some_iff.mp H
     obtain ⟨⟨t363, t364, t365⟩, A580, H⟩ := H
     replace H : (if t363 = true then (some (x3_1, t364, t365)) else (if 64 ≤ (x3_1.length : Int) then (some ((x3_1.take (64 : Int).toNat), t364, t365)) else (none))) = some (r1, r2, r3) := H
     have A58 := Aside0.mk A580
     clear A580
     by_cases c59 : t363 = true
     ·subst c59
      have H1 : (some (x3_1, t364, t365)) = some (r1, r2, r3) := Z10
      clear H
      have H := H1
      clear H1
      simp only [Option.some.injEq, Prod.mk.injEq] at H
      obtain ⟨rfl, rfl, rfl⟩ := H
      obtain ⟨Ao60, co60, eo60⟩ := Kd.R_slice HO_3.out
      subst eo60
      go_wp2_with (first | (go_at_call 87; (with_reducible refine (spec_l01Once.calls g s0_0 x1001_1 x1002_1 6 true t364 t365 w0 _ ?side1 ?side2 A58.out).mono ?_); (case side1 => exact Z39); (case side2 => exact Z40); rintro e w61 ⟨rfl, hi, hb, hk⟩; replace HO_3 := Z (Kd.R_mono (Kd.R_keep (IsS97.apart (show IsS97 w0 _ g s0_0 x1001_1 x1002_1 from Z39) (Z7 HO_3) (by decide)) hk (fun _ h => h.2)) (fun _ h => h.1)); replace HK := Z (KeepBut.trans Z41 hk (.inl rfl)); replace HB := Z (hb); replace HI0 := Z (hi); (try clear hb); (try clear hb2); (try clear hk); (try clear hi)))
      go_ret
      exact ⟨_, Z8, (Z7 HO_3), Z39, Z40, Z41⟩
     ·replace c59 := Bool.eq_false_iff.mpr c59
      subst c59
      have H1 : (if 64 ≤ (x3_1.length : Int) then (some ((x3_1.take (64 : Int).toNat), t364, t365)) else (none)) = some (r1, r2, r3) := by rw [if_neg (show ¬ (false = true) by decide)] at H; exact H
      clear H
      have H := H1
      clear H1
      by_cases c62 : 64 ≤ (x3_1.length : Int)
      ·rw [if_pos c62] at H
       have c62b0 := eq_true c62
       have c62b1 : decide (64 ≤ (x3_1.length : Int)) = true := decide_eq_true c62
       clear c62
       obtain ⟨y366, hy366⟩ : ∃ y_ : List Int, y_ = (x3_1.take (64 : Int).toNat) := ⟨_, rfl⟩
       replace H : (some (y366, t364, t365)) = some (r1, r2, r3) := by first | (rw [hy366]; with_reducible exact H) | (have H2_ := (Option.bind_some _ _).symm.trans H; rw [hy366]; with_reducible exact H2_) | (have H2_ := (Option.bind_some _ _).symm.trans H; with_reducible exact H2_) | with_reducible exact H | (rw [hy366]; exact H) | exact H
       have Ny366 := Aside0.mk hy366
       clear hy366
       simp only [Option.some.injEq, Prod.mk.injEq] at H
       obtain ⟨rfl, rfl, rfl⟩ := H
       obtain ⟨Ao63, co63, eo63⟩ := Kd.R_slice HO_3.out
       subst eo63
       go_wp2_with (first | (go_at_call 87; (with_reducible refine (spec_l01Once.calls g s0_0 x1001_1 x1002_1 6 false t364 t365 w0 _ ?side1 ?side2 A58.out).mono ?_); (case side1 => exact Z39); (case side2 => exact Z40); rintro e w64 ⟨rfl, hi, hb, hk⟩; replace HO_3 := Z (Kd.R_mono (Kd.R_keep (IsS97.apart (show IsS97 w0 _ g s0_0 x1001_1 x1002_1 from Z39) (Z7 HO_3) (by decide)) hk (fun _ h => h.2)) (fun _ h => h.1)); replace HK := Z (KeepBut.trans Z41 hk (.inl rfl)); replace HB := Z (hb); replace HI0 := Z (hi); (try clear hb); (try clear hb2); (try clear hk); (try clear hi); (try clear hcut64); have q65 : (64 : Int) ≤ ((x3_1.length : Int) : Int) := of_decide_eq_true Z2; obtain ⟨i065, hi065, _, hsz65, _⟩ := info_parts info47; have hcut65 := cut_to (P := Try.prog) 24 47 .i64 Try.underlying24 hi065 Ao63 x3_1.length co63 64 (by omega) q65 (Kd.R_reads' HO_3.out).2.1; have hr65 := Kd.R_take (m := (64 : Int).toNat) HO_3.out (by omega); have hy65 : y366.length = (64 : Int).toNat := (by rw [Ny366.out, List.length_take]; omega); rw [← Ny366.out] at hr65; rw [← hy65] at hr65 hcut65; clear hy65 hi065 hsz65 HO_3; have HO368 := Aside0.mk hr65; clear hr65; replace q65 := eq_true q65))
       go_ret
       exact ⟨_, Z8, (Z7 HO368), Z39, Z40, Z41⟩
      ·rw [if_neg c62] at H
       exact absurd H (by simp)
    ·rw [if_neg c57] at H
     have c57b0 : decide (64 < (x3_1.length : Int)) = false := decide_eq_false c57
     have c57b1 : decide (64 < x3_1.length) = false := decide_eq_false (by omega)
     clear c57
     simp only [Option.some.injEq, Prod.mk.injEq] at H
     obtain ⟨rfl, rfl, rfl⟩ := H
     obtain ⟨Ao66, co66, eo66⟩ := Kd.R_slice HO_3.out
     subst eo66
     go_wp2
     go_ret
     exact ⟨_, Z8, (Z7 HO_3), Z39, Z40, Z41⟩

/-! ### spec_NewStore: function 119 -/
def spec_NewStore.f (a0 : Int) : Option (List Int) := (spec_l01In.f a0 0 12).bind fun t410 => (if t410 = true then (if 0 ≤ (wrap64 (a0 * 64)) then (if (wrap64 (a0 * 64) : Int).toNat ≤ 70368744177664 then (some (List.replicate (wrap64 (a0 * 64) : Int).toNat 0)) else (none)) else (none)) else (some ([] : List Int)))
set_option maxHeartbeats 8000000 in
set_option maxRecDepth 100000 in
theorem spec_NewStore.calls (a0 : Int) (r : List Int) (w : World) (h : spec_NewStore.f a0 = some r) :
  Calls Try.prog 119 #[.int .i64 a0] w fun e w' => ∃ v0_ : Value, e = .returned (.agg #[v0_]) ∧ Kd.R (Kd.int .u32) 47 w' w.heap.size (fun _ => True) v0_ r ∧ Below w.heap.size w w' := by
 have hu34 := Try.underlying34
 have HB := Z (Below.refl w.heap.size w)
 have H : ((spec_l01In.f a0 0 12).bind fun t410 => (if t410 = true then (if 0 ≤ (wrap64 (a0 * 64)) then (if (wrap64 (a0 * 64) : Int).toNat ≤ 70368744177664 then (some (List.replicate (wrap64 (a0 * 64) : Int).toNat 0)) else (none)) else (none)) else (some ([] : List Int)))) = some r := h
 clear h
 replace H := Option.bind_eq_some_iff.mp H
 obtain ⟨t410, A20, H⟩ := H
 replace H : (if t410 = true then (if 0 ≤ (wrap64 (a0 * 64)) then (if (wrap64 (a0 * 64) : Int).toNat ≤ 70368744177664 then (some (List.replicate (wrap64 (a0 * 64) : Int).toNat 0)) else (none)) else (none)) else (some ([] : List Int))) = some r := H
 have A2 := Aside0.mk A20
 clear A20
 by_cases c3 : t410 = true
 ·subst c3
  have H1 : (if 0 ≤ (wrap64 (a0 * 64)) then (if (wrap64 (a0 * 64) : Int).toNat ≤ 70368744177664 then (some (List.replicate (wrap64 (a0 * 64) : Int).toNat 0)) else (none)) else (none)) = some r := Z10
  clear H
  have H := H1
  clear H1
  obtain ⟨ji4, hji4⟩ : ∃ j_ : Int, (wrap64 (a0 * 64)) = j_ := ⟨_, rfl⟩
  replace H : (if 0 ≤ (ji4) then (if (ji4 : Int).toNat ≤ 70368744177664 then (some (List.replicate (ji4 : Int).toNat 0)) else (none)) else (none)) = some r := by first | (rw [hji4] at H; exact H) | (simp only [hji4] at H ⊢; exact H)
  (try rw [hji4] at A2)
  have hji4w : (IntKind.i64.wrap (a0 * 64)) = ji4 := (i64_w _).trans hji4
  by_cases c5 : 0 ≤ (ji4)
  ·rw [if_pos c5] at H
   have c5b0 := eq_true c5
   have c5b1 : decide (0 ≤ (ji4)) = true := decide_eq_true c5
   clear c5
   by_cases c6 : (ji4 : Int).toNat ≤ 70368744177664
   ·rw [if_pos c6] at H
    have c6b0 := eq_true c6
    have c6b1 : decide ((ji4 : Int).toNat ≤ 70368744177664) = true := decide_eq_true c6
    clear c6
    obtain ⟨y411, hy411⟩ : ∃ y_ : List Int, y_ = (List.replicate (ji4 : Int).toNat 0) := ⟨_, rfl⟩
    replace H : (some y411) = some r := by first | (rw [hy411]; with_reducible exact H) | (have H2_ := (Option.bind_some _ _).symm.trans H; rw [hy411]; with_reducible exact H2_) | (have H2_ := (Option.bind_some _ _).symm.trans H; with_reducible exact H2_) | with_reducible exact H | (rw [hy411]; exact H) | exact H
    have Ny411 := Aside0.mk hy411
    clear hy411
    obtain rfl := Option.some.inj H
    go_enter Try.func119, Try.ntmps119
    go_wp2_with (first | ((with_reducible refine gate_dst (N := 2) rfl ?_); refine box_event (by rfl) (N := 2) (by rfl) (cs := #[.slice none 0 0]) (t := 34) Z4 ?_; intro gb409 hg w7 hbox hb; have BK409 := Z (hbox); have GW409 := Z ((Z54 : w.heap.size ≤ gb409)); have GE409 := Z ((Z54 : w.heap.size ≤ gb409)); replace HB := Z (below_step Z33 hb); clear hb hbox hg) | ((with_reducible refine gate_callee (f := 68) rfl ?_); refine goesL_ (some 4) rfl rfl Try.func68 Z9 rfl #[.int .i64 a0, .int .i64 0, .int .i64 12] rfl Z12 ?_; (with_reducible refine (spec_l01In.calls a0 0 12 true _ A2.out).mono ?_); rintro e w' ⟨rfl, ⟨nd, rfl⟩⟩; refine ⟨_, rfl, ?_⟩; (try (rw [drewN_self w7]; generalize hq_ : World.drewN w7 _ = w7; have n0_ : Aside0 (w7.heap[gb409]? = some (.cells #[.slice none 0 0] 34 (0, 0))) := ⟨by rw [← hq_]; exact (Z11 BK409)⟩; have n1_ : Aside0 (Below w.heap.size w w7) := ⟨by rw [← hq_]; exact Z33⟩; clear BK409 HB hq_; have BK409 := n0_; have HB := n1_; clear n0_ n1_))) | ((with_reducible refine gate_dst (N := 9) rfl ?_); refine Kd.R_make (Kd.int .u32) _ 47 rfl (N := 9) rfl 24 _ _ rfl ji4 rfl rfl Try.underlying24 (.int .u32 0) 4 info47 rfl (by decide) (by omega) 0 (ok := fun _ => True) (okp := fun _ => True) rfl (fun _ hk => hk) trivial (of_decide_eq_true Z2) (Nat.le_trans (Nat.mul_le_mul_right _ (of_decide_eq_true Z2 : ji4.toNat ≤ 70368744177664)) (by omega)) (Below.refl _ _) (Nat.le_refl _) ?_; intro v412 w8 ho9 hb hg_ hnew_; clear hg_ hnew_; (first | rw [← Ny411.out] at ho9 | (simp only [Int.reduceToNat] at ho9; rw [← Ny411.out] at ho9)); have HO413 := Z (Kd.R_lower ho9 (below_size Z33)); replace BK409 := Z (blk_below (g := gb409) (o := .cells #[.slice none 0 0] 34 (0, 0)) (Z11 BK409) hb); replace HB := Z (below_step Z33 hb); clear hb ho9; obtain ⟨Ao10, co10, eo10⟩ := Kd.R_slice HO413.out; subst eo10; have hcz11_0 : w8.cell? ⟨gb409, 0, none⟩ = some (.slice none 0 0) := (blk_cell BK409.out 0).trans rfl; have hfz11_0 := blk_frozen BK409.out 0))
    refine bodyPost_ret (results_cell_row rfl _ _ gb409 34 #[.slice Ao10 y411.length co10] (0, 0) _ rfl (Z14 BK409) Try.underlying34 rfl Z9) rfl ?_
    exact ⟨_, by first | rfl | (simp [errW_none, errW_some] <;> rfl) | (simp only [← hji4]; first | rfl | (simp [errW_none, errW_some] <;> rfl)) | (simp [*, errW_none, errW_some] <;> rfl), by (with_reducible repeat (first | apply Kd.R_alloc | apply Kd.R_drewN | apply Kd.R_drew)); exact Kd.R_mono (Kd.R_far (p := ⟨gb409, 0, none⟩) (Kd.R_types HO413.out BK409.out (by decide)) (fun _ hk => hk.2) (.slice Ao10 y411.length co10)) (fun _ hk => trivial), Z33⟩
   ·rw [if_neg c6] at H
    exact absurd H (by simp)
  ·rw [if_neg c5] at H
   exact absurd H (by simp)
 ·replace c3 := Bool.eq_false_iff.mpr c3
  subst c3
  have H1 : (some ([] : List Int)) = some r := by rw [if_neg (show ¬ (false = true) by decide)] at H; exact H
  clear H
  have H := H1
  clear H1
  obtain rfl := Option.some.inj H
  go_enter Try.func119, Try.ntmps119
  go_wp2_with (first | ((with_reducible refine gate_dst (N := 2) rfl ?_); refine box_event (by rfl) (N := 2) (by rfl) (cs := #[.slice none 0 0]) (t := 34) Z4 ?_; intro gb409 hg w12 hbox hb; have BK409 := Z (hbox); have GW409 := Z ((Z54 : w.heap.size ≤ gb409)); have GE409 := Z ((Z54 : w.heap.size ≤ gb409)); replace HB := Z (below_step Z33 hb); clear hb hbox hg) | ((with_reducible refine gate_callee (f := 68) rfl ?_); refine goesL_ (some 4) rfl rfl Try.func68 Z9 rfl #[.int .i64 a0, .int .i64 0, .int .i64 12] rfl Z12 ?_; (with_reducible refine (spec_l01In.calls a0 0 12 false _ A2.out).mono ?_); rintro e w' ⟨rfl, ⟨nd, rfl⟩⟩; refine ⟨_, rfl, ?_⟩; (try (rw [drewN_self w12]; generalize hq_ : World.drewN w12 _ = w12; have n0_ : Aside0 (w12.heap[gb409]? = some (.cells #[.slice none 0 0] 34 (0, 0))) := ⟨by rw [← hq_]; exact (Z11 BK409)⟩; have n1_ : Aside0 (Below w.heap.size w w12) := ⟨by rw [← hq_]; exact Z33⟩; clear BK409 HB hq_; have BK409 := n0_; have HB := n1_; clear n0_ n1_)); have hcz13_0 : w12.cell? ⟨gb409, 0, none⟩ = some (.slice none 0 0) := (blk_cell BK409.out 0).trans rfl; have hfz13_0 := blk_frozen BK409.out 0))
  refine bodyPost_ret (results_cell_row rfl _ _ gb409 34 #[.slice none 0 0] (0, 0) _ rfl (Z14 BK409) Try.underlying34 rfl Z9) rfl ?_
  exact ⟨_, Z8, Z15, Z33⟩

end Go.Proofs.Ytkkiibjnpkjijaa.QFnBlocks
