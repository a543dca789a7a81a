/-
Arguments of a law that are structs of one-cell fields, or slices of such: opened to numbers, texts and lists; no conditions beyond those written in each.
-/
import Derived.Test.YtfjmpdcflnaogaaDoorWMore
import Derived.SizedLaws
import Derived.ChangeSlices
import Derived.Deep.Slices
import Derived.Deep.Fields
import Derived.ChangeSame
import Derived.ProofKit
import Derived.OpenShut
namespace Go.Proofs.YtfjmpdcflnaogaaDoor.Rowkit
open Go.ChangeShapes Go.WideShapes Go.Deep Go.RowKit Go.Proofs.YtfjmpdcflnaogaaDoorW.PrintWords
set_option linter.unusedVariables false

def IsRow (k : IntKind) (w : World) (a : Option Addr) (len cap : Nat) (zs : List Int) : Prop :=
  (a = none ∧ len = 0 ∧ cap = 0 ∧ zs = []) ∨
  ∃ x, a = some x ∧ len ≤ cap ∧ cap ≤ maxLen ∧ zs.length = cap ∧ (∀ i, i < zs.length → w.cell? (x.add i) = some (.int k (zs.getD i 0))) ∧ ∀ n ∈ zs, (Lit.int k n).wf = true
section
variable {H : Type} {enc : TypeId × Value → H} {P : Program} {w : World} {base : Nat} {held : Bool}
theorem weights_of {ts : List TypeId} {ds : List (DataW H)} {j : Nat} {t : TypeId} {d : DataW H} (h : (DataW.weightsEach P ts ds).all (· ≤ reachBytes) = true) (ht : ts[j]? = some t) (hd : ds[j]? = some d) : ∀ n ∈ d.weights P t, n ≤ reachBytes := by
  intro n hn
  simpa using List.all_eq_true.1 h _ (DataW.weights_mem_each ht hd n hn)
theorem weights_field {t : TypeId} {fs : Array Field} {parts : List (DataW H)} (hs : P.underlying t = some (.struct fs)) (h : ∀ n ∈ (DataW.agg parts).weights P t, n ≤ reachBytes) {j : Nat} {tj : TypeId} {d : DataW H} (hj : (fs.toList.map (·.type))[j]? = some tj) (hd : parts[j]? = some d) :
    ∀ n ∈ d.weights P tj, n ≤ reachBytes := by
  intro n hn
  refine h n ?_
  simp only [DataW.weights, hs]
  exact DataW.weights_mem_each hj hd n hn
theorem weights_elem {t e : TypeId} {xs ys : List (DataW H)} (hs : P.underlying t = some (.slice e)) (h : ∀ n ∈ (DataW.slice xs ys).weights P t, n ≤ reachBytes) : (xs.length + ys.length) * P.bytesOf e ≤ reachBytes ∧ ∀ d ∈ xs, ∀ n ∈ d.weights P e, n ≤ reachBytes := by
  simp only [DataW.weights, hs] at h
  refine ⟨h _ (List.mem_cons_self), fun d hd n hn => h n (List.mem_cons_of_mem _ (List.mem_append_left _ ?_))⟩
  clear h
  induction xs with
  | nil => cases hd
  | cons x xs ih =>
    rw [DataW.weightsAll, List.mem_append]
    rcases List.mem_cons.1 hd with rfl | hd
    · exact .inl hn
    · exact .inr (ih hd)
theorem leaf_ints {t e : TypeId} {k : IntKind} {B fuel : Nat} {c : Value} {y : DataW H × List MemPlace} (hu : P.underlying t = some (.slice e)) (he : P.underlying e = some (.int k)) (hc : P.cellsOf e = 1) (hB : P.bytesOf e = B)
    (hf : DataW.trod enc P w base (fun _ => true) held fuel t [c] = some y) (hw : ∀ n ∈ y.1.weights P t, n ≤ reachBytes) :
    ∃ a len cap zs, c = .slice a len cap ∧ IsRow k w a len cap zs ∧ len * B ≤ 140737488351232 := by
  rcases open_ints hu he hc hf with ⟨hcs, _⟩ | ⟨x, l, c', zs, hcs, _, hl, hm, hz, hx, hcell, hwz⟩
  · simp only [List.cons.injEq, and_true] at hcs
    exact ⟨none, 0, 0, [], hcs, .inl ⟨rfl, rfl, rfl, rfl⟩, by omega⟩
  · simp only [List.cons.injEq, and_true] at hcs
    refine ⟨some x, l, c', zs, hcs, .inr ⟨x, rfl, hl, hm, by simpa using hz, hcell, hwz⟩, ?_⟩
    rw [hx] at hw
    have z := (weights_elem hu hw).1
    rw [hB] at z
    have hl2 : l ≤ zs.length := by
      rw [hz]
      simpa using hl
    have h1 : (lits (H := H) k (zs.take l)).length + (lits (H := H) k (zs.drop l)).length = zs.length := by
      simp [lits]
      omega
    rw [h1] at z
    exact Nat.le_trans (Nat.mul_le_mul_right _ hl2) z
theorem leaf_string {t : TypeId} {fuel : Nat} {spare : Nat → Bool} {c : Value} {y : DataW H × List MemPlace} (hu : P.underlying t = some .string) (hf : DataW.trod enc P w base spare held fuel t [c] = some y) (hw : ∀ n ∈ y.1.weights P t, n ≤ reachBytes) :
    ∃ s, c = .string s ∧ s.size ≤ 140737488351232 := by
  obtain ⟨s, hcs, hx, _⟩ := DataW.trod_string hu hf
  simp only [List.cons.injEq, and_true] at hcs
  refine ⟨s, hcs, ?_⟩
  rw [hx] at hw
  have := hw s.data.toList.length (by simp [DataW.weights])
  rw [Array.length_toList] at this
  exact this
theorem leaf_int {t : TypeId} {k : IntKind} {fuel : Nat} {spare : Nat → Bool} {c : Value} {y : DataW H × List MemPlace} (hu : P.underlying t = some (.int k)) (hf : DataW.trod enc P w base spare held fuel t [c] = some y) :
    ∃ n, c = .int k n ∧ (Lit.int k n).wf = true := by
  obtain ⟨n, hcs, _, hn⟩ := DataW.trod_int hu hf
  simp only [List.cons.injEq, and_true] at hcs
  exact ⟨n, hcs, hn⟩
theorem leaf_bool {t : TypeId} {fuel : Nat} {spare : Nat → Bool} {c : Value} {y : DataW H × List MemPlace} (hu : P.underlying t = some .bool) (hf : DataW.trod enc P w base spare held fuel t [c] = some y) : ∃ b, c = .bool b := by
  obtain ⟨b, hcs, _⟩ := DataW.trod_bool hu hf
  simp only [List.cons.injEq, and_true] at hcs
  exact ⟨b, hcs⟩
theorem open_one {r : Reach} {b0 : Nat} {t : TypeId} {f0 : Field} {v : Value} {d : DataW H} {p : List MemPlace} {spare : Nat → Bool} (hs : P.underlying t = some (.struct #[f0])) (hone : oneCellFields P #[f0] = true) (hC : P.cellsOf t = 1)
    (hv : Value.okWide P w r b0 t v) (h : DataW.Trod enc P w base spare held t v d p) (hw : ∀ n ∈ d.weights P t, n ≤ reachBytes) :
    ∃ (v0 : Value) (y0 : DataW H × List MemPlace) (n : Nat), v = .agg #[v0] ∧ DataW.trod enc P w base spare held n f0.type [v0] = some y0 ∧ ∀ n ∈ y0.1.weights P f0.type, n ≤ reachBytes := by
  obtain ⟨cs, rfl, hsz⟩ := okWide_struct hs hv
  obtain ⟨l⟩ := cs
  match l, hsz.trans hC with
  | [c0], _ =>
    obtain ⟨fuel, hf⟩ := h
    obtain ⟨xs, n, _, hx, _, hlen, hg⟩ := DataW.trod_struct hs hf
    obtain ⟨o0, k0⟩ := hone_of hone 0 f0 rfl
    match xs, hlen with
    | [y0], _ =>
      simp only [Prod.mk.injEq] at hx
      refine ⟨c0, y0, n, rfl, by simpa [Value.cells, o0, k0] using hg 0 f0 rfl, ?_⟩
      have hd : d = .agg [y0.1] := by simpa using hx.1
      rw [hd] at hw
      exact weights_field hs hw (j := 0) rfl rfl
theorem open_five {r : Reach} {b0 : Nat} {t : TypeId} {f0 f1 f2 f3 f4 : Field} {v : Value} {d : DataW H} {p : List MemPlace} {spare : Nat → Bool} (hs : P.underlying t = some (.struct #[f0, f1, f2, f3, f4])) (hone : oneCellFields P #[f0, f1, f2, f3, f4] = true) (hC : P.cellsOf t = 5)
    (hv : Value.okWide P w r b0 t v) (h : DataW.Trod enc P w base spare held t v d p) (hw : ∀ n ∈ d.weights P t, n ≤ reachBytes) :
    ∃ (v0 v1 v2 v3 v4 : Value) (y0 y1 y2 y3 y4 : DataW H × List MemPlace) (n : Nat), v = .agg #[v0, v1, v2, v3, v4] ∧
      DataW.trod enc P w base spare held n f0.type [v0] = some y0 ∧ DataW.trod enc P w base spare held n f1.type [v1] = some y1 ∧ DataW.trod enc P w base spare held n f2.type [v2] = some y2 ∧ DataW.trod enc P w base spare held n f3.type [v3] = some y3 ∧ DataW.trod enc P w base spare held n f4.type [v4] = some y4 ∧
      ∀ n ∈ y1.1.weights P f1.type, n ≤ reachBytes := by
  obtain ⟨cs, rfl, hsz⟩ := okWide_struct hs hv
  obtain ⟨l⟩ := cs
  match l, hsz.trans hC with
  | [c0, c1, c2, c3, c4], _ =>
    obtain ⟨fuel, hf⟩ := h
    obtain ⟨xs, n, _, hx, _, hlen, hg⟩ := DataW.trod_struct hs hf
    obtain ⟨o0, k0⟩ := hone_of hone 0 f0 rfl
    obtain ⟨o1, k1⟩ := hone_of hone 1 f1 rfl
    obtain ⟨o2, k2⟩ := hone_of hone 2 f2 rfl
    obtain ⟨o3, k3⟩ := hone_of hone 3 f3 rfl
    obtain ⟨o4, k4⟩ := hone_of hone 4 f4 rfl
    match xs, hlen with
    | [y0, y1, y2, y3, y4], _ =>
      simp only [Prod.mk.injEq] at hx
      refine ⟨c0, c1, c2, c3, c4, y0, y1, y2, y3, y4, n, rfl, by simpa [Value.cells, o0, k0] using hg 0 f0 rfl, by simpa [Value.cells, o1, k1] using hg 1 f1 rfl, by simpa [Value.cells, o2, k2] using hg 2 f2 rfl, by simpa [Value.cells, o3, k3] using hg 3 f3 rfl, by simpa [Value.cells, o4, k4] using hg 4 f4 rfl, ?_⟩
      have hd : d = .agg [y0.1, y1.1, y2.1, y3.1, y4.1] := by simpa using hx.1
      rw [hd] at hw
      exact weights_field hs hw (j := 1) rfl rfl
theorem open_slice_fields {t e : TypeId} {fs : Array Field} {fuel : Nat} {spare : Nat → Bool} {cs : List Value} {x : DataW H × List MemPlace} (ht : P.underlying t = some (.slice e)) (he : P.underlying e = some (.struct fs))
    (hone : oneCellFields P fs = true) (hC : P.cellsOf e = fs.size) (h : DataW.trod enc P w base spare held fuel t cs = some x) :
    (cs = [.slice none 0 0] ∧ x = (.nil, [])) ∨
    ∃ (a : Addr) (len cap m : Nat) (D : Nat → DataW H) (Pl : Nat → List MemPlace), cs = [.slice (some a) len cap] ∧ base ≤ a.block ∧ len ≤ cap ∧ cap ≤ maxLen ∧ m = (if spare a.block then cap else len) ∧
      x = (.slice ((List.range len).map D) ((List.range (m - len)).map fun j => D (len + j)), MemPlace.row a (m * fs.size) ++ (List.range m).flatMap Pl) ∧
      ∀ i, i < m → ∃ (ys : List (DataW H × List MemPlace)) (n : Nat), D i = .agg (ys.map (·.1)) ∧ Pl i = ys.flatMap (·.2) ∧ ys.length = fs.size ∧
        ∀ (j : Nat) (f : Field), fs[j]? = some f → ∃ (v : Value) (y : DataW H × List MemPlace), w.cell? (a.add (i * fs.size + j)) = some v ∧ ys[j]? = some y ∧ DataW.trod enc P w base spare held n f.type [v] = some y := by
  rcases open_slice ht h with h0 | ⟨a, len, cap, m, n, D, Pl, hcs, hb, hl, hm, hmm, hx, hi⟩
  · exact .inl h0
  · refine .inr ⟨a, len, cap, m, D, Pl, hcs, hb, hl, hm, hmm, by rw [hC] at hx; exact hx, fun i him => ?_⟩
    obtain ⟨cs', hc, ht'⟩ := hi i him
    rw [hC] at hc
    obtain ⟨ys, n', hn', hy, hlen, hyl, hf⟩ := DataW.trod_struct he ht'
    obtain ⟨_, hcl, hat⟩ := World.cells?_some hc
    simp only [Prod.mk.injEq] at hy
    refine ⟨ys, n', hy.1, hy.2, hyl, fun j f hj => ?_⟩
    obtain ⟨ho, hk⟩ := hone_of hone j f hj
    have hjl : j < fs.size := (Array.getElem?_eq_some_iff.1 hj).1
    have hcell := hat j hjl
    have hv : cs'[j]? = some (cs'[j]'(by omega)) := List.getElem?_eq_getElem (by omega)
    have h1 := hf j f hj
    rw [ho, hk] at h1
    have hone' : (cs'.drop j).take 1 = [cs'[j]'(by omega)] := by
      rw [List.drop_eq_getElem_cons (by omega)]
      rfl
    rw [hone'] at h1
    have hys : ys[j]? = some (ys[j]'(by omega)) := List.getElem?_eq_getElem (by omega)
    refine ⟨_, _, ?_, hys, h1.trans hys⟩
    rw [← Go.Deep.add_add, hcell, hv]
theorem choose_list {α : Type} (n : Nat) (Q : Nat → α → Prop) (h : ∀ i, i < n → ∃ x, Q i x) : ∃ l : List α, l.length = n ∧ ∀ (i : Nat) (x : α), l[i]? = some x → Q i x := by
  induction n with
  | zero => exact ⟨[], rfl, fun i x hx => by simp at hx⟩
  | succ n ih =>
    obtain ⟨l, hl, hq⟩ := ih fun i hi => h i (by omega)
    obtain ⟨x, hx⟩ := h n (by omega)
    refine ⟨l ++ [x], by simp [hl], fun i y hy => ?_⟩
    rcases Nat.lt_or_ge i l.length with hi | hi
    · rw [List.getElem?_append_left hi] at hy
      exact hq i y hy
    · have hin : i = l.length := by
        have := (List.getElem?_eq_some_iff.1 hy).1
        rw [List.length_append, List.length_singleton] at this
        omega
      subst hin
      have e : x = y := by simpa using hy
      rw [hl]; exact e ▸ hx
/-- What is told of the items of a slice. -/
def ItemCells (k0 k2 k4 : IntKind) (w : World) (a : Addr) (i : Nat) (x : Int × ByteArray × Int × Bool × Int) : Prop :=
  (∀ (j : Nat) (u : Value), [Value.int k0 x.1, .string x.2.1, .int k2 x.2.2.1, .bool x.2.2.2.1, .int k4 x.2.2.2.2][j]? = some u → w.cell? (a.add (i * 5 + j)) = some u) ∧
  (Lit.int k0 x.1).wf = true ∧ x.2.1.size ≤ 140737488351232 ∧ (Lit.int k2 x.2.2.1).wf = true ∧ (Lit.int k4 x.2.2.2.2).wf = true
theorem open_items {t e : TypeId} {f0 f1 f2 f3 f4 : Field} {k0 k2 k4 : IntKind} {B fuel : Nat} {c : Value} {y : DataW H × List MemPlace} (hu : P.underlying t = some (.slice e)) (he : P.underlying e = some (.struct #[f0, f1, f2, f3, f4])) (hone : oneCellFields P #[f0, f1, f2, f3, f4] = true) (hC : P.cellsOf e = 5) (hB : P.bytesOf e = B)
    (h0 : P.underlying f0.type = some (.int k0)) (h1 : P.underlying f1.type = some .string) (h2 : P.underlying f2.type = some (.int k2)) (h3 : P.underlying f3.type = some .bool) (h4 : P.underlying f4.type = some (.int k4))
    (hf : DataW.trod enc P w base (fun _ => true) held fuel t [c] = some y) (hw : ∀ n ∈ y.1.weights P t, n ≤ reachBytes) :
    ∃ a len cap, ∃ l : List (Int × ByteArray × Int × Bool × Int), c = .slice a len cap ∧ l.length = len ∧ len ≤ cap ∧ len ≤ maxLen ∧ len * B ≤ 140737488351232 ∧ (0 < len → ∃ x, a = some x ∧ ∀ i p, l[i]? = some p → ItemCells k0 k2 k4 w x i p) := by
  rcases open_slice_fields hu he hone hC hf with ⟨hcs, _⟩ | ⟨a, len, cap, m, D, Pl, hcs, hb, hl, hm, hmm, hx, hi⟩
  · simp only [List.cons.injEq, and_true] at hcs
    exact ⟨none, 0, 0, [], hcs, rfl, Nat.le_refl _, Nat.zero_le _, by omega, fun h => absurd h (Nat.lt_irrefl 0)⟩
  · simp only [List.cons.injEq, and_true] at hcs
    rw [hx] at hw
    obtain ⟨z, hz⟩ := weights_elem hu hw
    have hcap : m = cap := by simpa using hmm
    obtain ⟨l, hl5, hq⟩ := choose_list len (ItemCells k0 k2 k4 w a) (by
      intro i hil
      obtain ⟨ys, n, hD, _, hyl, hcell⟩ := hi i (by omega)
      obtain ⟨v0, y0, c0, e0, t0⟩ := hcell 0 f0 rfl
      obtain ⟨v1, y1, c1, e1, t1⟩ := hcell 1 f1 rfl
      obtain ⟨v2, y2, c2, e2, t2⟩ := hcell 2 f2 rfl
      obtain ⟨v3, y3, c3, e3, t3⟩ := hcell 3 f3 rfl
      obtain ⟨v4, y4, c4, e4, t4⟩ := hcell 4 f4 rfl
      obtain ⟨n0, rfl, w0⟩ := leaf_int h0 t0
      have hD2 := hz (D i) (List.mem_map.2 ⟨i, List.mem_range.2 hil, rfl⟩)
      rw [hD] at hD2
      obtain ⟨s1, rfl, w1⟩ := leaf_string h1 t1 (weights_field he hD2 (j := 1) rfl (by rw [List.getElem?_map, e1]; rfl))
      obtain ⟨n2, rfl, w2⟩ := leaf_int h2 t2
      obtain ⟨b3, rfl⟩ := leaf_bool h3 t3
      obtain ⟨n4, rfl, w4⟩ := leaf_int h4 t4
      refine ⟨(n0, s1, n2, b3, n4), ?_, w0, w1, w2, w4⟩
      intro j u hu'
      match j, hu' with
      | 0, hu' => simp at hu'; subst hu'; exact c0
      | 1, hu' => simp at hu'; subst hu'; exact c1
      | 2, hu' => simp at hu'; subst hu'; exact c2
      | 3, hu' => simp at hu'; subst hu'; exact c3
      | 4, hu' => simp at hu'; subst hu'; exact c4
      | j + 5, hu' => simp at hu')
    refine ⟨some a, len, cap, l, hcs, hl5, hl, Nat.le_trans hl hm, ?_, fun _ => ⟨a, rfl, hq⟩⟩
    rw [hB] at z
    simp only [List.length_map, List.length_range] at z
    exact Nat.le_trans (Nat.mul_le_mul_right _ (by omega)) z
end
end Go.Proofs.YtfjmpdcflnaogaaDoor.Rowkit
