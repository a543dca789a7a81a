/-
Plain functions for the Go functions that a law reaches, each with a proof that the translation's call comes to just that; no conditions beyond those written in each.
-/
import Derived.Test.YtkkiibjnpkjijaaSFnExactPutItems
import Derived.Test.YtkkiibjnpkjijaaQFnExactPutItemsx6
import Derived.Test.YtkkiibjnpkjijaaQFnExactPutItemsx7
namespace Go.Proofs.Ytkkiibjnpkjijaa.QFnExactPutItems
open Go.RowKit Go.Proofs.YtkkiibjnpkjijaaW.PrintWords Go.Proofs.YtkkiibjnpkjijaaW.PrintLast Go.Proofs.YtkkiibjnpkjijaaW.PrintMore
attribute [local go_sem] max2_int min2_int max_two min_two max_three min_three max_four min_four   -- for this text's walks alone
set_option linter.unusedVariables false
set_option linter.unusedSimpArgs false

/-! ### impl_hasBlocks: function 74 (by hand: a closure is handed on; at a list of one number) -/
def impl_hasBlocks.f (l0_0 : List Int) (l1 : List Int) : Option (Bool) := match l1 with
 | [b] => (impl_StoreOk.f l0_0).bind fun t => if t = true then (impl_within.f b 0 (wrap64 ((wrap64 ((l0_0.length : Int) / 64)) - 1))) else some false
 | _ => none
set_option maxHeartbeats 2000000 in
set_option maxRecDepth 100000 in
theorem impl_hasBlocks.calls (A0_0 : Option Addr) (c0_0 : Nat) (l0_0 : List Int) (A1 : Option Addr) (c1 : Nat) (l1 : List Int) (r : Bool) (w : World) (hr0_0 : Kd.C (Kd.int .u32) w A0_0 l0_0.length l0_0) (hc0_0 : l0_0.length ≤ c0_0) (hr1 : Kd.C (Kd.int .i64) w A1 l1.length l1) (hc1 : l1.length ≤ c1) (h : impl_hasBlocks.f l0_0 l1 = some r) :
  Calls Try.prog 74 #[.agg #[.slice A0_0 l0_0.length c0_0], .slice A1 l1.length c1] w fun e w' => e = .returned (.bool r) ∧ Below w.heap.size w w' := by
 have hu := Try.underlying34
 unfold impl_hasBlocks.f at h
 split at h
 case h_2 => cases h
 rename_i b
 replace h := Option.bind_eq_some_iff.mp h
 obtain ⟨t1, h1, h2⟩ := h
 have H1 := Aside0.mk h1
 have HR0 := Aside0.mk hr0_0
 have HC0 := Aside0.mk hc0_0
 obtain ⟨ad, rfl, hb⟩ : ∃ ad, A1 = some ad ∧ w.cell? (ad.add 0) = some (.int .i64 b) := by
  obtain ⟨ad, e, hx⟩ := Kd.at_int hr1 0 (by omega) (by simp)
  exact ⟨ad, e, hx⟩
 have HBB := Aside0.mk hb
 clear h1 hr0_0 hc0_0 hr1 hb
 cases t1 with
 | false =>
  rw [if_neg (by simp)] at h2
  obtain rfl := Option.some.inj h2
  clear h2
  go_enter Try.func74, Try.ntmps74
  go_wp2_with (go_at_call 100; refine (impl_StoreOk.calls _ _ l0_0 false _ (Kd.C_alloc HR0.out _) HC0.out H1.out).mono ?_; rintro e w1 ⟨rfl, hb1⟩)
  go_ret
  exact ⟨rfl, ((Below.refl _ w).alloc (Nat.le_refl _) _).trans (hb1.mono (by simp))⟩
 | true =>
  rw [if_pos rfl] at h2
  have H2 := Aside0.mk h2
  clear h2
  go_enter Try.func74, Try.ntmps74
  go_wp2_with fail
  refine (impl_StoreOk.calls _ _ l0_0 true _ (Kd.C_alloc HR0.out _) HC0.out H1.out).mono ?_
  rintro e w1 ⟨rfl, hb1⟩
  have hcell : w1.cell? ⟨w.heap.size, 0, none⟩ = some (.slice A0_0 l0_0.length c0_0) := by
   refine (hb1.cell (p := ⟨w.heap.size, 0, none⟩) (by simp)).trans ?_
   simp
  have hloc : (ad.add 0) = ad := by unfold Addr.add; simp
  have hcb : w1.cell? ad = some (.int .i64 b) := by
   rw [← hloc]
   have hlt := World.block_lt_of_cell? w _ HBB.out
   exact ((hb1.cell (p := ad.add 0) (by simp; omega)).trans (World.cell?_alloc_lt w _ _ hlt)).trans HBB.out
  have HBW : Below w.heap.size w w1 := ((Below.refl _ w).alloc (Nat.le_refl _) _).trans (hb1.mono (by simp))
  clear hb1
  clear hloc
  go_wp2_with (first | (go_at_call 101; go_in) | (go_at_call 120; go_in) | (go_at_call 102; go_in) | fail)
  refine wp_loop_rounds 2 ?_
  rw [rounds_succ]
  go_wp2_with (first | (go_at_call 102; go_in) | fail)
  cases r with
  | false =>
   refine (impl_within.calls b 0 _ false w1 H2.out).mono ?_
   rintro e w2 ⟨rfl, ⟨nd, rfl⟩⟩
   go_wp2_with fail
   go_ret
   exact ⟨rfl, pw_below_drewN HBW nd⟩
  | true =>
   refine (impl_within.calls b 0 _ true w1 H2.out).mono ?_
   rintro e w2 ⟨rfl, ⟨nd, rfl⟩⟩
   go_wp2_with fail
   rw [rounds_succ]
   go_wp2_with fail
   go_ret
   exact ⟨rfl, pw_below_drewN HBW nd⟩

/-! ### slices_Clone_uint32_uint32: function 75 (by hand: a slice held against nil) -/
def slices_Clone_uint32_uint32.f (l0 : List Int) : Option (List Int) := if l0.length ≤ 35184372088831 then some l0 else none
theorem slices_Clone_uint32_uint32.inf : (Try.prog.info? 47).map (fun i => (i.zero, i.size, i.bytes)) = some (some (.int .u32 0), 1, 4) := Z0
set_option maxHeartbeats 2000000 in
set_option maxRecDepth 100000 in
theorem slices_Clone_uint32_uint32.calls (A0 : Option Addr) (c0 : Nat) (l0 : List Int) (r : List Int) (w : World) (hr0 : Kd.C (Kd.int .u32) w A0 l0.length l0) (hc0 : l0.length ≤ c0) (h : slices_Clone_uint32_uint32.f l0 = some r) :
  Calls Try.prog 75 #[.slice A0 l0.length c0] w fun e w' => ∃ v0_ : Value, e = .returned (v0_) ∧ Kd.R (Kd.int .u32) 47 w' w.heap.size (fun _ => True) v0_ r ∧ Below w.heap.size w w' := by
 unfold slices_Clone_uint32_uint32.f at h
 split at h
 case isFalse => cases h
 rename_i hbig
 obtain rfl := Option.some.inj h
 have q22 : ∀ (w : World) (a : Option Addr) (n c n' c' : Nat), (binOp .eql 24 (.slice a n c) (.slice none n' c')).run Try.prog w = .ok (.bool a.isNone) w := fun w a n c n' c' => Lib.run_eql_slice_nil w _ _ a n c n' c' Try.underlying24
 have HR0 := Aside0.mk hr0
 clear hr0 h
 have HB0 := Aside0.mk hbig
 clear hbig
 cases A0 with
 | none =>
  have hl : l0 = [] := by
   rcases Nat.eq_zero_or_pos l0.length with h0 | h0
   ·exact List.eq_nil_of_length_eq_zero h0
   ·obtain ⟨ad, e, _⟩ := HR0.out.2.2 h0
    cases e
  subst hl
  go_enter Try.func75, Try.ntmps75
  go_wp2
  go_ret
  exact ⟨_, rfl, Kd.R_nil _ _ _ _ _, Below.refl _ _⟩
 | some ad =>
  obtain ⟨i0, hi, hz0, hz1, hz2⟩ := info_parts slices_Clone_uint32_uint32.inf
  have HI := Aside0.mk hi
  have HZ0 := Aside0.mk hz0
  have HZ1 := Aside0.mk hz1
  have HZ2 := Aside0.mk hz2
  clear hi hz0 hz1 hz2
  go_enter Try.func75, Try.ntmps75
  go_wp2_with (at_builtin; refine wpList_append_own _ rfl _ _ 24 rfl w.heap.size 47 i0 _ 1 4 Try.underlying24 HI.out HZ0.out HZ1.out HZ2.out rfl (by omega) _ _ _ rfl (World.ownsRow_made w #[] 0 (Nat.le_refl _) (Nat.zero_le _) (by simp)) ad l0.length c0 (encs (Value.int .u32) l0) rfl ?qc1 ?qc2 ?qc3 ?qc4 ?qc5 ?qc6 ?_)
  case qc1 => simp [encs]
  case qc2 =>
   intro j u hu
   obtain ⟨p, hp, rfl⟩ : ∃ p, l0[j]? = some p ∧ Value.int .u32 p = u := by simpa [encs] using hu
   obtain ⟨hj, hp⟩ := List.getElem?_eq_some_iff.1 hp
   obtain ⟨ad', e, hx⟩ := Kd.at_int (Kd.C_alloc HR0.out (.cells #[] 47)) (j : Int) (by omega) (by omega)
   injection e with e
   subst e
   rw [Int.toNat_natCast] at hx
   rw [hx]
   simp [rd, hp, List.getElem?_eq_getElem hj]
  case qc3 =>
   intro u hu
   obtain ⟨p, _, rfl⟩ := List.mem_map.1 hu
   rfl
  case qc4 => have := HB0.out; unfold maxLen; omega
  case qc5 => have := HB0.out; omega
  case qc6 => simp
  intro v' w1 hown hgrow hnil
  go_wp2
  go_ret
  refine ⟨v', rfl, Kd.R_of_own (by simpa using hown) (fun _ _ => trivial), ?_⟩
  exact ((Below.refl _ w).alloc (Nat.le_refl _) _).grown hgrow (by simp) (by intro k hk; simp [Value.ownBlock] at hk; omega)

/-! ### impl_PutBlock: function 39 -/
def impl_PutBlock.g (l0_0 : List Int) (a1 : Int) (l2 : List Int) : Option (List Int × Bool) := (impl_hasBlocks.f l0_0 (([a1] : List Int))).bind fun t369 => (if t369 = true then (if (l2.length : Int) > 64 then (some (([] : List Int), false)) else ((slices_Clone_uint32_uint32.f l0_0).bind fun t370 => (some (t370, true)))) else (some (([] : List Int), false)))
/-- Cells laid over a row of noughts from a place on. -/
def putAt (l : List Int) (o : Nat) (cs : List Int) : List Int := splice (splice l o (List.replicate 64 0)) o cs
def impl_PutBlock.f (l0_0 : List Int) (a1 : Int) (l2 : List Int) : Option (List Int × Bool) := (impl_PutBlock.g l0_0 a1 l2).bind fun r => if r.2 = true then (if 0 ≤ a1 ∧ (a1 + 1) * 64 ≤ (r.1.length : Int) ∧ r.1.length ≤ 1048576 ∧ l2.length ≤ 64 then some (putAt r.1 (a1 * 64).toNat l2, true) else none) else some r
theorem set_splice {α : Type} (cur : List α) (o : Nat) (v : α) (vs : List α) (h : o < cur.length) : splice (cur.set o v) (o + 1) vs = splice cur o (v :: vs) := by
 unfold splice
 rw [List.take_succ_eq_append_getElem (by rw [List.length_set]; exact h), List.take_set_of_le (Nat.le_refl _), List.getElem_set_self, List.drop_set_of_lt (by omega), List.length_cons, List.append_assoc, List.singleton_append, List.cons_append, show o + 1 + vs.length = o + (vs.length + 1) by omega]
theorem setCells_blk (g t : Nat) : ∀ (vs : List Value) (o : Nat) (w : World) (cur : List Value), w.heap[g]? = some (.cells cur.toArray t (0, 0)) → o + vs.length ≤ cur.length → (w.setCells g o vs).heap[g]? = some (.cells (splice cur o vs).toArray t (0, 0))
 | [], o, w, cur, h, hl => by
  rw [World.setCells, h]; simp [splice]
 | v :: vs, o, w, cur, h, hl => by
  rw [List.length_cons] at hl
  rw [World.setCells, setCells_blk g t vs (o + 1) _ (cur.set o v) (by rw [blk_set h]; simp) (by rw [List.length_set]; omega), set_splice _ _ _ _ (by omega)]
theorem setCells_other (g k : Nat) (hk : k ≠ g) : ∀ (vs : List Value) (o : Nat) (w : World), (w.setCells g o vs).heap[k]? = w.heap[k]?
 | [], _, _ => rfl
 | v :: vs, o, w => by
  rw [World.setCells, setCells_other g k hk vs, Below.heap_setCell w ⟨g, o, none⟩ v k hk]
theorem setCells_below {w : World} {g : Nat} (hg : w.heap.size ≤ g) : ∀ (vs : List Value) (o : Nat) (W : World), Below w.heap.size w W → Below w.heap.size w (W.setCells g o vs)
 | [], _, _, h => h
 | v :: vs, o, W, h => by
  rw [World.setCells]
  exact setCells_below hg vs (o + 1) _ (below_set h hg)
theorem take_splice {α : Type} (cur : List α) (o n : Nat) (vs : List α) (h : o + vs.length ≤ n) (hn : n ≤ cur.length) : (splice cur o vs).take n = splice (cur.take n) o vs := by
 unfold splice
 simp only [List.take_append, List.length_take, List.take_take, List.drop_take]
 rw [Nat.min_eq_left (show o ≤ cur.length by omega), Nat.min_eq_right (show o ≤ n by omega), Nat.min_eq_left (show o ≤ n by omega), List.take_of_length_le (l := vs) (by omega), Nat.sub_sub]
theorem encs_splice (f : Int → Value) (l : List Int) (o : Nat) (cs : List Int) : encs f (splice l o cs) = splice (encs f l) o (encs f cs) := by
 simp [splice, encs]
theorem copy_splice_more {P : Program} {w : World} {ops : Array Oper} {rest : List Oper} {o : Oper} {a : Act} {Q : Exit → Act → World → Prop} (hgd : o.guard = none) (d s : Operand) (dT sT : TypeId)
  (ho : o.op = .call { callee := .builtin .copy, args := #[d, s], argTypes := #[dT, sT] }) (elem : TypeId) (hu : P.underlying dT = some (.slice elem)) (hsz : (P.info? elem).map (·.size) = some 1)
  (dp sp : Option Addr) (dLen dCap sLen sCap : Nat) (hd : a.eval d = .slice dp dLen dCap) (hs : a.eval s = .slice sp sLen sCap)
  (g off : Nat) (cur : List Value) (t : TypeId) (hg : w.heap[g]? = some (.cells cur.toArray t (0, 0))) (cs : List Value) (hn : cs.length = Nat.min sLen dLen)
  (hpos : 0 < cs.length → dp = some ⟨g, off, none⟩ ∧ ∃ ad, sp = some ad ∧ ∀ j v, cs[j]? = some v → w.cell? (ad.add j) = some v)
  (hfit : off + cs.length ≤ cur.length) (h1 : ∀ v ∈ cs, v.oneCell' = true) (B : Nat) (w0 : World) (hb : Below B w0 w) (hBg : B ≤ g)
  (h : ∀ w', Hid (w'.heap[g]? = some (.cells (splice cur off cs).toArray t (0, 0))) → Hid (∀ k, k ≠ g → w'.heap[k]? = w.heap[k]?) → Below B w0 w' → wpList P ops Q rest (a.put o.dst (goInt cs.length)) w') :
  wpList P ops Q (o :: rest) a w := by
 by_cases h0 : cs.length = 0
 ·obtain rfl : cs = [] := List.eq_nil_of_length_eq_zero h0
  refine wpList_copy_nothing hgd d s dT sT ho elem hu hsz dp sp dLen dCap sLen sCap hd hs (by simpa using hn.symm) ?_
  exact h w (show _ = _ by simpa [splice] using hg) (fun _ _ => rfl) hb
 ·obtain ⟨rfl, ad, rfl, hsrc⟩ := hpos (by omega)
  refine wpList_copy_own hgd d s dT sT ho elem hu hsz g off dLen dCap ad sLen sCap hd hs cur.toArray t hg cs hn hsrc (by simpa using hfit) h1 ?_
  exact h _ (show _ = _ by simpa [splice] using setRow_heap w g _ _ t _ hg) (fun k hk => setRow_other w g k _ hk) (below_setRow hb hBg _)
theorem impl_PutBlock.inf : (Try.prog.info? 47).map (·.size) = some 1 := Z0
theorem impl_PutBlock.zero (w : World) : (zeroValue 47).run Try.prog w = .ok (.int .u32 0) w := Z0
theorem impl_PutBlock.cut (go n cap : Nat) (i j : Int) (h0 : 0 ≤ i) (h1 : j = i + 64) (h2 : j ≤ (n : Int)) (h3 : n ≤ cap) (W : World) :
  (Instr.slice 24 (.slice (some ⟨go, 0, none⟩) n cap) (some (.int .i64 i)) (some (.int .i64 j)) none).run Try.prog W = .ok (.slice (some ⟨go, i.toNat, none⟩) 64 (cap - i.toNat)) W := by
 obtain ⟨i0, hi, hz⟩ := Option.map_eq_some_iff.1 impl_PutBlock.inf
 have hel : Program.elem Try.prog 24 = 47 := by simp [Program.elem, Try.underlying24]
 have hu : Try.prog.underlying 24 = some (.slice (Program.elem Try.prog 24)) := by rw [hel]; exact Try.underlying24
 rw [run_slice_lh W 24 _ n cap hu .i64 .i64 i j h0 (by omega) (by omega), hel]
 have hcap : ¬ cap = i.toNat := by omega
 have hij : j.toNat - i.toNat = 64 := by omega
 simp [sizeOf, typeInfo, hi, hz, sliced, Result.andThen, Addr.add, hcap, hij]
 intro h_
 omega
set_option maxHeartbeats 8000000 in
set_option maxRecDepth 100000 in
theorem impl_PutBlock.calls (A0_0 : Option Addr) (c0_0 : Nat) (l0_0 : List Int) (a1 : Int) (A2 : Option Addr) (c2 : Nat) (l2 : List Int) (r1 : List Int) (r2 : Bool) (w : World) (hr0_0 : Kd.C (Kd.int .u32) w A0_0 l0_0.length l0_0) (hc0_0 : l0_0.length ≤ c0_0) (hr2 : Kd.C (Kd.int .u32) w A2 l2.length l2) (hc2 : l2.length ≤ c2) (h : impl_PutBlock.f l0_0 a1 l2 = some (r1, r2)) :
  Calls Try.prog 39 #[.agg #[.slice A0_0 l0_0.length c0_0], .int .i64 a1, .slice A2 l2.length c2] w fun e w' => ∃ v0_ : Value, e = .returned (.tuple #[.agg #[v0_], .bool r2]) ∧ Kd.R (Kd.int .u32) 47 w' w.heap.size (fun _ => True) v0_ r1 ∧ Below w.heap.size w w' := by
 have hu34 := Try.underlying34
 have HR0_0 := Aside0.mk hr0_0
 have HC0_0 := Aside0.mk hc0_0
 clear hr0_0 hc0_0
 have HR2 := Aside0.mk hr2
 have HC2 := Aside0.mk hc2
 clear hr2 hc2
 obtain ⟨⟨q1, q2⟩, h0, h2⟩ := Option.bind_eq_some_iff.mp h
 clear h
 have H2_ := Aside0.mk h2
 clear h2
 have HB := Z (Below.refl w.heap.size w)
 have H : ((impl_hasBlocks.f l0_0 (([a1] : List Int))).bind fun t369 => (if t369 = true then (if (l2.length : Int) > 64 then (some (([] : List Int), false)) else ((slices_Clone_uint32_uint32.f l0_0).bind fun t370 => (some (t370, true)))) else (some (([] : List Int), false)))) = some (q1, q2) := h0
 clear h0
 obtain ⟨y366, hy366⟩ : ∃ y_ : List Int, y_ = (([a1] : List Int)) := ⟨_, rfl⟩
 replace H : ((impl_hasBlocks.f l0_0 y366).bind fun t369 => (if t369 = true then (if (l2.length : Int) > 64 then (some (([] : List Int), false)) else ((slices_Clone_uint32_uint32.f l0_0).bind fun t370 => (some (t370, true)))) else (some (([] : List Int), false)))) = some (q1, q2) := by first | (rw [hy366]; with_reducible exact H) | (have H2_ := (Option.bind_some _ _).symm.trans H; rw [hy366]; with_reducible exact H2_) | (have H2_ := (Option.bind_some _ _).symm.trans H; with_reducible exact H2_) | with_reducible exact H | (rw [hy366]; exact H) | exact H
 have Ny366 := Aside0.mk hy366
 clear hy366
 replace H := Option.bind_eq_some_iff.mp H
 obtain ⟨t369, A40, H⟩ := H
 replace H : (if t369 = true then (if (l2.length : Int) > 64 then (some (([] : List Int), false)) else ((slices_Clone_uint32_uint32.f l0_0).bind fun t370 => (some (t370, true)))) else (some (([] : List Int), false))) = some (q1, q2) := H
 have A4 := Aside0.mk A40
 clear A40
 by_cases c5 : t369 = true
 ·subst c5
  have H1 : (if (l2.length : Int) > 64 then (some (([] : List Int), false)) else ((slices_Clone_uint32_uint32.f l0_0).bind fun t370 => (some (t370, true)))) = some (q1, q2) := Z7
  clear H
  have H := H1
  clear H1
  by_cases c6 : (l2.length : Int) > 64
  ·rw [if_pos c6] at H
   have c6b0 : decide (64 < (l2.length : Int)) = true := decide_eq_true c6
   have c6b1 : decide (64 < l2.length) = true := decide_eq_true (by omega)
   clear c6
   simp only [Option.some.injEq, Prod.mk.injEq] at H
   obtain ⟨rfl, rfl⟩ := H
   have h2 := H2_.out
   clear H2_
   rw [if_neg (by simp)] at h2
   simp only [Option.some.injEq, Prod.mk.injEq] at h2
   obtain ⟨rfl, rfl⟩ := h2
   go_enter Try.func39, Try.ntmps39
   go_wp2_with (first | ((with_reducible refine gate_dst (N := 3) rfl ?_); (try (refine gate_guard (by rfl) ?_; dsimp only)); refine box_event (by rfl) (N := 3) (by rfl) (cs := #[.slice A0_0 l0_0.length c0_0]) (t := 34) Z8 ?_; intro gb364 hg w7 hbox hb; have BK364 := Z (hbox); have GW364 := Z ((Z63 : w.heap.size ≤ gb364)); have GE364 := Z ((Z63 : w.heap.size ≤ gb364)); replace HB := Z (below_step Z42 hb); clear hb hbox hg) | ((with_reducible refine gate_dst (N := 6) rfl ?_); (try (refine gate_guard (by rfl) ?_; dsimp only)); refine box_event (by rfl) (N := 6) (by rfl) (cs := #[.slice none 0 0]) (t := 34) Z8 ?_; intro gb365 hg w8 hbox hb; have BK365 := Z (hbox); have GW365 := Z ((Z63 : w.heap.size ≤ gb365)); have GE365 := Z ((Z63 : w.heap.size ≤ gb365)); replace HB := Z (below_step Z42 hb); have NB364_365 := Z ((Z52 : gb364 ≠ gb365)); have NB365_364 := Z ((Z53 : gb365 ≠ gb364)); replace BK364 := Z (blk_below (g := gb364) (o := .cells #[.slice A0_0 l0_0.length c0_0] 34 (0, 0)) (Z10 BK364) hb); clear hb hbox hg; have hnb9 := NB364_365.out; have hnc9 := NB365_364.out; have hcz10_0 : w8.cell? ⟨gb364, 0, none⟩ = some (.slice A0_0 l0_0.length c0_0) := (blk_cell BK364.out 0).trans rfl; have hfz10_0 := blk_frozen BK364.out 0) | ((with_reducible refine gate_dst (N := 12) rfl ?_); (try (refine gate_guard (by rfl) ?_; dsimp only)); refine Kd.R_lit (Kd.int .i64) _ 3 (by rfl) (N := 12) (by rfl) (xs := ([a1] : List Int)) (inner := [.int .i64 a1]) (ok := fun _ => True) (okp := fun _ => True) Z8 (Reps.one (show Kd.M (Kd.int .i64) _ _ _ a1 [.int .i64 a1] from rfl) (Reps.none _ _)) (fun _ hk => hk) trivial (Below.refl _ _) (Nat.le_refl _) (by simp) ?_; intro v367 w11 ho12 hb hg_ hnew_; clear hg_ hnew_; (first | rw [← Ny366.out] at ho12 | (simp only [Int.reduceToNat] at ho12; rw [← Ny366.out] at ho12)); have HO368 := Z (Kd.R_lower ho12 (below_size Z42)); replace BK364 := Z (blk_below (g := gb364) (o := .cells #[.slice A0_0 l0_0.length c0_0] 34 (0, 0)) (Z10 BK364) hb); replace BK365 := Z (blk_below (g := gb365) (o := .cells #[.slice none 0 0] 34 (0, 0)) (Z10 BK365) hb); replace HB := Z (below_step Z42 hb); clear hb ho12; obtain ⟨Ao13, co13, eo13⟩ := Kd.R_slice HO368.out; subst eo13) | ((with_reducible refine gate_callee (f := 74) rfl ?_); refine goesL_ (some 13) rfl rfl Try.func74 Z0 rfl #[.agg #[.slice A0_0 l0_0.length c0_0], .slice Ao13 y366.length co13] rfl Z11 ?_; (with_reducible refine (impl_hasBlocks.calls _ _ l0_0 _ _ y366 true _ ?side1 ?side2 ?side3 ?side4 A4.out).mono ?_); (case side1 => exact (Z12 HR0_0)); (case side2 => exact HC0_0.out); (case side3 => exact (Z21 HO368)); (case side4 => exact (Kd.R_reads' HO368.out).2.1); rintro e w14 ⟨rfl, hb⟩; refine ⟨_, rfl, ?_⟩; replace HO368 := Z (Kd.R_below (Z14 HO368) hb); replace BK364 := Z (blk_below (g := gb364) (o := .cells #[.slice A0_0 l0_0.length c0_0] 34 (0, 0)) (Z10 BK364) hb); replace BK365 := Z (blk_below (g := gb365) (o := .cells #[.slice none 0 0] 34 (0, 0)) (Z10 BK365) hb); replace HB := Z (below_step Z42 hb); (try clear hb); (try clear hb2); (try clear hk); (try clear hi); have hcz15_0 : w14.cell? ⟨gb365, 0, none⟩ = some (.slice none 0 0) := (blk_cell BK365.out 0).trans rfl; have hfz15_0 := blk_frozen BK365.out 0))
   refine bodyPost_ret (results_ct rfl _ _ gb365 34 #[.slice none 0 0] (0, 0) _ rfl (Z18 BK365) Try.underlying34 rfl Z0) rfl ?_
   exact ⟨_, Z13, Z19, Z42⟩
  ·rw [if_neg c6] at H
   have c6b0 : decide (64 < (l2.length : Int)) = false := decide_eq_false c6
   have c6b1 : decide (64 < l2.length) = false := decide_eq_false (by omega)
   clear c6
   replace H := Option.bind_eq_some_iff.mp H
   obtain ⟨t370, A160, H⟩ := H
   replace H : (some (t370, true)) = some (q1, q2) := H
   have A16 := Aside0.mk A160
   clear A160
   simp only [Option.some.injEq, Prod.mk.injEq] at H
   obtain ⟨rfl, rfl⟩ := H
   have h2 := H2_.out
   clear H2_
   rw [if_pos rfl] at h2
   split at h2
   case isFalse => cases h2
   rename_i hbd_
   simp only [Option.some.injEq, Prod.mk.injEq] at h2
   obtain ⟨rfl, rfl⟩ := h2
   have HBD := Aside0.mk hbd_
   clear hbd_
   go_enter Try.func39, Try.ntmps39
   go_upto_region 4 with (first | ((with_reducible refine gate_dst (N := 3) rfl ?_); (try (refine gate_guard (by rfl) ?_; dsimp only)); refine box_event (by rfl) (N := 3) (by rfl) (cs := #[.slice A0_0 l0_0.length c0_0]) (t := 34) Z8 ?_; intro gb364 hg w17 hbox hb; have BK364 := Z (hbox); have GW364 := Z ((Z63 : w.heap.size ≤ gb364)); have GE364 := Z ((Z63 : w.heap.size ≤ gb364)); replace HB := Z (below_step Z42 hb); clear hb hbox hg) | ((with_reducible refine gate_dst (N := 6) rfl ?_); (try (refine gate_guard (by rfl) ?_; dsimp only)); refine box_event (by rfl) (N := 6) (by rfl) (cs := #[.slice none 0 0]) (t := 34) Z8 ?_; intro gb365 hg w18 hbox hb; have BK365 := Z (hbox); have GW365 := Z ((Z63 : w.heap.size ≤ gb365)); have GE365 := Z ((Z63 : w.heap.size ≤ gb365)); replace HB := Z (below_step Z42 hb); have NB364_365 := Z ((Z52 : gb364 ≠ gb365)); have NB365_364 := Z ((Z53 : gb365 ≠ gb364)); replace BK364 := Z (blk_below (g := gb364) (o := .cells #[.slice A0_0 l0_0.length c0_0] 34 (0, 0)) (Z10 BK364) hb); clear hb hbox hg; have hnb19 := NB364_365.out; have hnc19 := NB365_364.out; have hcz20_0 : w18.cell? ⟨gb364, 0, none⟩ = some (.slice A0_0 l0_0.length c0_0) := (blk_cell BK364.out 0).trans rfl; have hfz20_0 := blk_frozen BK364.out 0) | ((with_reducible refine gate_dst (N := 12) rfl ?_); (try (refine gate_guard (by rfl) ?_; dsimp only)); refine Kd.R_lit (Kd.int .i64) _ 3 (by rfl) (N := 12) (by rfl) (xs := ([a1] : List Int)) (inner := [.int .i64 a1]) (ok := fun _ => True) (okp := fun _ => True) Z8 (Reps.one (show Kd.M (Kd.int .i64) _ _ _ a1 [.int .i64 a1] from rfl) (Reps.none _ _)) (fun _ hk => hk) trivial (Below.refl _ _) (Nat.le_refl _) (by simp) ?_; intro v367 w21 ho22 hb hg_ hnew_; clear hg_ hnew_; (first | rw [← Ny366.out] at ho22 | (simp only [Int.reduceToNat] at ho22; rw [← Ny366.out] at ho22)); have HO368 := Z (Kd.R_lower ho22 (below_size Z42)); replace BK364 := Z (blk_below (g := gb364) (o := .cells #[.slice A0_0 l0_0.length c0_0] 34 (0, 0)) (Z10 BK364) hb); replace BK365 := Z (blk_below (g := gb365) (o := .cells #[.slice none 0 0] 34 (0, 0)) (Z10 BK365) hb); replace HB := Z (below_step Z42 hb); clear hb ho22; obtain ⟨Ao23, co23, eo23⟩ := Kd.R_slice HO368.out; subst eo23) | ((with_reducible refine gate_callee (f := 74) rfl ?_); refine goesL_ (some 13) rfl rfl Try.func74 Z0 rfl #[.agg #[.slice A0_0 l0_0.length c0_0], .slice Ao23 y366.length co23] rfl Z11 ?_; (with_reducible refine (impl_hasBlocks.calls _ _ l0_0 _ _ y366 true _ ?side1 ?side2 ?side3 ?side4 A4.out).mono ?_); (case side1 => exact (Z12 HR0_0)); (case side2 => exact HC0_0.out); (case side3 => exact (Z21 HO368)); (case side4 => exact (Kd.R_reads' HO368.out).2.1); rintro e w24 ⟨rfl, hb⟩; refine ⟨_, rfl, ?_⟩; replace HO368 := Z (Kd.R_below (Z14 HO368) hb); replace BK364 := Z (blk_below (g := gb364) (o := .cells #[.slice A0_0 l0_0.length c0_0] 34 (0, 0)) (Z10 BK364) hb); replace BK365 := Z (blk_below (g := gb365) (o := .cells #[.slice none 0 0] 34 (0, 0)) (Z10 BK365) hb); replace HB := Z (below_step Z42 hb); (try clear hb); (try clear hb2); (try clear hk); (try clear hi); have hcz25_0 : w24.cell? ⟨gb364, 0, none⟩ = some (.slice A0_0 l0_0.length c0_0) := (blk_cell BK364.out 0).trans rfl; have hfz25_0 := blk_frozen BK364.out 0) | ((with_reducible refine gate_callee (f := 75) rfl ?_); refine goesL_ (some 23) rfl rfl Try.func75 Z0 rfl #[.slice A0_0 l0_0.length c0_0] rfl Z11 ?_; (with_reducible refine (slices_Clone_uint32_uint32.calls _ _ l0_0 t370 _ ?side1 ?side2 A16.out).mono ?_); (case side1 => exact (Z12 HR0_0)); (case side2 => exact HC0_0.out); rintro e w26 ⟨v371, rfl, ho0, hb⟩; refine ⟨_, rfl, ?_⟩; replace HO368 := Z (Kd.R_below (Z14 HO368) hb); have HO372 := Z (Kd.R_lower ho0 (below_size Z42)); replace BK364 := Z (blk_below (g := gb364) (o := .cells #[.slice A0_0 l0_0.length c0_0] 34 (0, 0)) (Z10 BK364) hb); replace BK365 := Z (blk_below (g := gb365) (o := .cells #[.slice none 0 0] 34 (0, 0)) (Z10 BK365) hb); replace HB := Z (below_step Z42 hb); (try clear hb); (try clear hb2); (try clear hk); (try clear hi); (try clear ho0); obtain ⟨Ao27, co27, eo27⟩ := Kd.R_slice HO372.out; subst eo27) | ((with_reducible refine gate_dst (N := 8) rfl ?_); (try (refine gate_guard (by rfl) ?_; dsimp only)); refine box_event (by rfl) (N := 8) (by rfl) (cs := #[.slice none 0 0]) (t := 34) Z8 ?_; intro gb373 hg w28 hbox hb; replace HO368 := Z (Kd.R_below (Z14 HO368) hb); replace HO372 := Z (Kd.R_below (Z14 HO372) hb); have BK373 := Z (hbox); have GW373 := Z ((Z63 : w.heap.size ≤ gb373)); have GE373 := Z ((Z63 : w.heap.size ≤ gb373)); replace HB := Z (below_step Z42 hb); have NB364_373 := Z ((Z52 : gb364 ≠ gb373)); have NB373_364 := Z ((Z53 : gb373 ≠ gb364)); replace BK364 := Z (blk_below (g := gb364) (o := .cells #[.slice A0_0 l0_0.length c0_0] 34 (0, 0)) (Z10 BK364) hb); have NB365_373 := Z ((by rw [hg]; exact Nat.ne_of_lt (blk_lt (g := gb365) (o := .cells #[.slice none 0 0] 34 (0, 0)) (Z10 BK365)) : gb365 ≠ gb373)); have NB373_365 := Z ((by rw [hg]; exact Nat.ne_of_gt (blk_lt (g := gb365) (o := .cells #[.slice none 0 0] 34 (0, 0)) (Z10 BK365)) : gb373 ≠ gb365)); replace BK365 := Z (blk_below (g := gb365) (o := .cells #[.slice none 0 0] 34 (0, 0)) (Z10 BK365) hb); clear hb hbox hg; have hnb29 := NB373_364.out; have hnc29 := NB364_373.out; have hnb30 := NB373_365.out; have hnc30 := NB365_373.out; have hcz31_0 : w28.cell? ⟨gb373, 0, none⟩ = some (.slice none 0 0) := (blk_cell BK373.out 0).trans rfl; have hfz31_0 := blk_frozen BK373.out 0; have hcz32_0 : w28.cell? ⟨gb365, 0, none⟩ = some (.slice none 0 0) := (blk_cell BK365.out 0).trans rfl; have hfz32_0 := blk_frozen BK365.out 0))
   have hbd := HBD.out
   dsimp only at hbd
   have n0_ : Aside0 (Kd.R (Kd.int .u32) 47 (w28.setCell ⟨gb373, 0, none⟩ (.slice Ao27 t370.length co27)) w.heap.size (fun _ => True) (.slice Ao27 t370.length co27) t370) := ⟨Kd.R_mono (Kd.R_far (p := ⟨gb373, 0, none⟩) (Kd.R_types HO372.out BK373.out (by decide)) (fun _ hk => hk.2) _) (fun _ _ => trivial)⟩
   have n1_ : Aside0 ((w28.setCell ⟨gb373, 0, none⟩ (.slice Ao27 t370.length co27)).heap[gb373]? = some (.cells #[.slice Ao27 t370.length co27] 34 (0, 0))) := ⟨(blk_set BK373.out 0 _).trans rfl⟩
   have n2_ : Aside0 ((w28.setCell ⟨gb373, 0, none⟩ (.slice Ao27 t370.length co27)).heap[gb365]? = some (.cells #[.slice none 0 0] 34 (0, 0))) := ⟨blk_far BK365.out NB365_373.out _⟩
   have n3_ : Aside0 (Below w.heap.size w (w28.setCell ⟨gb373, 0, none⟩ (.slice Ao27 t370.length co27))) := ⟨below_set HB.out GE373.out⟩
   clear HO372 BK373 BK365 HB
   generalize (w28.setCell ⟨gb373, 0, none⟩ (.slice Ao27 t370.length co27)) = wa at n0_ n1_ n2_ n3_ ⊢
   have hrow := Kd.own_of_R n0_.out
   obtain ⟨hrl, hrow⟩ := hrow
   rcases hrow with ⟨_, e2⟩ | ⟨go, cap, cur, eo, hge, hg, hnc, hcm, hsz, htk⟩
   ·omega
   injection eo with ea _ ec
   subst ea
   subst ec
   rw [Nat.mul_one] at hsz htk
   have hnx : gb373 ≠ go := fun e_ => Kd.R_ne n0_.out n1_.out (by decide) (by rw [e_]; rfl)
   have hnr : gb365 ≠ go := fun e_ => Kd.R_ne n0_.out n2_.out (by decide) (by rw [e_]; rfl)
   have e1_ : IntKind.i64.wrap (a1 * 64) = a1 * 64 := by rw [IntKind.wrap_i64]; omega
   have e2_ : IntKind.i64.wrap (a1 + 1) = a1 + 1 := by rw [IntKind.wrap_i64]; omega
   have e3_ : IntKind.i64.wrap ((a1 + 1) * 64) = (a1 + 1) * 64 := by rw [IntKind.wrap_i64]; omega
   have hcut := impl_PutBlock.cut go t370.length co27 (a1 * 64) ((a1 + 1) * 64) (by omega) (by omega) (by omega) hnc
   have hcz_ : wa.cell? ⟨gb373, 0, none⟩ = some (.slice (some ⟨go, 0, none⟩) t370.length co27) := (blk_cell n1_.out 0).trans rfl
   have HK_ := Z (And.intro hbd (And.intro hge (And.intro hg (And.intro hnc (And.intro hcm (And.intro hsz (And.intro htk (And.intro hnx hnr))))))))
   clear hbd hge hg hnc hcm hsz htk hnx hnr hrl
   go_upto_region 5 with fail
   clear hcut
   obtain ⟨o_, ho_⟩ : ∃ o_ : Nat, (a1 * 64).toNat = o_ := ⟨_, rfl⟩
   rw [ho_]
   obtain ⟨hbd, hge, hg, hnc, hcm, hsz, htk, hnx, hnr⟩ := HK_.out
   have hob : o_ + 64 ≤ t370.length := by omega
   have hcells : ∀ j, j < 64 → (wa.cell? ⟨go, o_ + j, none⟩).isSome = true := by
    intro j hj
    rw [blk_cell hg, Array.getElem?_eq_getElem (by omega)]; rfl
   have hfroz : ∀ j, j < 64 → wa.frozen? ⟨go, o_ + j, none⟩ = false := fun j _ => blk_frozen hg _
   have hcl : ∀ ty, (Builtin.clear_ #[24] ty #[.slice (some ⟨go, o_, none⟩) 64 (co27 - o_)]).run Try.prog wa = .ok (.tuple #[]) (wa.setCells go o_ (List.replicate 64 (.int .u32 0))) :=
    fun ty => Lib.run_clear_slice wa 24 47 ty (.int .u32 0) Try.underlying24 impl_PutBlock.zero rfl rfl go o_ 64 (co27 - o_) (by omega) hcells hfroz
   obtain ⟨Z_, hZ_⟩ : ∃ Z_ : List Value, Z_ = List.replicate 64 (.int .u32 0) := ⟨_, rfl⟩
   have hZl : Z_.length = 64 := by rw [hZ_]; simp
   rw [← hZ_] at hcl
   have HZ_ := Z (And.intro hZ_ hZl)
   clear hbd hge hg hnc hcm hsz htk hnx hnr hob hcells hfroz hZ_ hZl
   go_upto_region 6 with (simp only [hcl])
   clear hcl
   obtain ⟨hbd, hge, hg, hnc, hcm, hsz, htk, hnx, hnr⟩ := HK_.out
   obtain ⟨hZ_, hZl⟩ := HZ_.out
   have g1_ : Aside0 ((wa.setCells go o_ Z_).heap[go]? = some (.cells (splice cur.toList o_ Z_).toArray 47 (0, 0))) := ⟨setCells_blk go 47 Z_ o_ wa cur.toList (by simpa using hg) (by simp; omega)⟩
   have n4_ : Aside0 ((wa.setCells go o_ Z_).heap[gb373]? = some (.cells #[.slice (some ⟨go, 0, none⟩) t370.length co27] 34 (0, 0))) := ⟨(setCells_other go _ hnx Z_ o_ wa).trans n1_.out⟩
   have n5_ : Aside0 ((wa.setCells go o_ Z_).heap[gb365]? = some (.cells #[.slice none 0 0] 34 (0, 0))) := ⟨(setCells_other go _ hnr Z_ o_ wa).trans n2_.out⟩
   have n6_ : Aside0 (Below w.heap.size w (wa.setCells go o_ Z_)) := ⟨setCells_below hge Z_ o_ wa n3_.out⟩
   clear n0_ n1_ n2_ n3_ hcz_
   generalize (wa.setCells go o_ Z_) = wb at g1_ n4_ n5_ n6_ ⊢
   have HC2_ := Z (Kd.C_below HR2.out n6_.out)
   obtain ⟨X_, hX_⟩ : ∃ X_ : List Value, X_ = encs (Value.int .u32) l2 := ⟨_, rfl⟩
   have hXl : X_.length = l2.length := by rw [hX_]; simp [encs]
   have hX1 : ∀ v ∈ X_, v.oneCell' = true := by
    rw [hX_]; intro v hv; obtain ⟨p, _, rfl⟩ := List.mem_map.1 hv; rfl
   have hpos : 0 < X_.length → ∃ ad, A2 = some ad ∧ ∀ j v, X_[j]? = some v → wb.cell? (ad.add j) = some v := by
    intro h0
    obtain ⟨ad, e, _⟩ := Kd.at_int HC2_.out 0 (by omega) (by omega)
    refine ⟨ad, e, fun j v hv => ?_⟩
    rw [hX_] at hv
    obtain ⟨p, hp, rfl⟩ : ∃ p, l2[j]? = some p ∧ Value.int .u32 p = v := by simpa [encs] using hv
    obtain ⟨hj, hp⟩ := List.getElem?_eq_some_iff.1 hp
    obtain ⟨ad', e', hx⟩ := Kd.at_int HC2_.out (j : Int) (by omega) (by omega)
    rw [e] at e'
    injection e' with e'
    subst e'
    rw [Int.toNat_natCast] at hx
    rw [hx]
    simp [rd, hp, List.getElem?_eq_getElem hj]
   have hmin : X_.length = Nat.min l2.length 64 := by rw [hXl]; exact (Nat.min_eq_left hbd.2.2.2).symm
   have hfit : o_ + X_.length ≤ (splice cur.toList o_ Z_).length := by rw [length_splice _ _ _ (by simp; omega)]; simp; omega
   have HP_ := Z (And.intro hXl (And.intro hX1 (And.intro hpos (And.intro hmin (And.intro hfit hX_)))))
   clear hbd hge hg hnc hcm hsz htk hnx hnr hZ_ hZl hXl hX1 hpos hmin hfit hX_
   go_upto_region 7 with ((with_reducible refine gate_dst (N := 36) rfl ?_); refine copy_splice_more rfl (.tmp 34) (.tmp 35) 24 24 rfl 47 Try.underlying24 impl_PutBlock.inf _ _ 64 (co27 - o_) l2.length c2 rfl rfl go o_ (splice cur.toList o_ Z_) 47 g1_.out X_ HP_.out.2.2.2.1 (fun h_ => ⟨rfl, HP_.out.2.2.1 h_⟩) HP_.out.2.2.2.2.1 HP_.out.2.1 w.heap.size w n6_.out HK_.out.2.1 ?_; intro w2 HG2 HO2 hB2)
   obtain ⟨hbd, hge, hg, hnc, hcm, hsz, htk, hnx, hnr⟩ := HK_.out
   have hZ_ : Z_ = encs (Value.int .u32) (List.replicate 64 0) := by rw [HZ_.out.1]; simp [encs]
   have hZl := HZ_.out.2
   have hXl := HP_.out.1
   have hX_ := HP_.out.2.2.2.2.2
   have n7_ : Aside0 (w2.heap[gb373]? = some (.cells #[.slice (some ⟨go, 0, none⟩) t370.length co27] 34 (0, 0))) := ⟨(HO2 _ hnx).trans n4_.out⟩
   have n8_ : Aside0 (w2.heap[gb365]? = some (.cells #[.slice none 0 0] 34 (0, 0))) := ⟨(HO2 _ hnr).trans n5_.out⟩
   have hp1 : (splice t370 o_ (List.replicate 64 (0 : Int))).length = t370.length := length_splice _ _ _ (by rw [List.length_replicate]; omega)
   have hpl : (putAt t370 o_ l2).length = t370.length := by
    unfold putAt
    rw [length_splice _ _ _ (by rw [hp1]; omega), hp1]
   have hct : cur.toList.length = cur.size := Array.length_toList
   have hcl1 : (splice cur.toList o_ Z_).length = cur.size := by rw [length_splice _ _ _ (by omega), hct]
   have hcl2 : (splice (splice cur.toList o_ Z_) o_ X_).length = cur.size := by rw [length_splice _ _ _ (by rw [hcl1]; omega), hcl1]
   have hrow : Aside0 (Kd.R (Kd.int .u32) 47 w2 w.heap.size (fun _ => True) (.slice (some ⟨go, 0, none⟩) t370.length co27) (putAt t370 o_ l2)) := by
    refine ⟨Kd.R_of_own ⟨by simp [encs], .inr ⟨go, co27, _, by rw [hpl], hge, HG2, by rw [hpl]; exact hnc, hcm, by rw [List.size_toArray, hcl2, hsz, Nat.mul_one], ?_⟩⟩ (fun _ _ => trivial)⟩
    rw [hpl, Nat.mul_one, List.toList_toArray, take_splice _ _ _ _ (by omega) (by rw [hcl1]; omega), take_splice _ _ _ _ (by omega) (by omega), htk, hZ_, hX_, ← encs_splice, ← encs_splice]
    rfl
   have HB2_ := Aside0.mk hB2
   have hcz1_ : w2.cell? ⟨gb373, 0, none⟩ = some (.slice (some ⟨go, 0, none⟩) t370.length co27) := (blk_cell n7_.out 0).trans rfl
   have hcz2_ : w2.cell? ⟨gb365, 0, none⟩ = some (.slice none 0 0) := (blk_cell n8_.out 0).trans rfl
   have hfz2_ := blk_frozen n8_.out 0
   clear hbd hge hg hnc hcm hsz htk hnx hnr hZ_ hZl hXl hX_ hp1 hpl hct hcl1 hcl2 HG2 HO2 hB2
   go_wp2
   refine bodyPost_ret (results_ct rfl _ _ gb365 34 #[.slice (some ⟨go, 0, none⟩) t370.length co27] (0, 0) _ rfl (by (with_reducible repeat (first | refine blk_drewN ?_ _ | refine blk_drew ?_ | refine blk_alloc ?_ _)); refine blk_put (cs := #[.slice none 0 0]) ?_ 0 _ rfl; (with_reducible repeat (first | refine blk_drewN ?_ _ | refine blk_drew ?_ | refine blk_alloc ?_ _)); exact n8_.out) Try.underlying34 rfl Z0) rfl ?_
   exact ⟨_, rfl, by (with_reducible repeat (first | apply Kd.R_alloc | apply Kd.R_drewN | apply Kd.R_drew)); exact Kd.R_mono (Kd.R_far (p := ⟨gb365, 0, none⟩) (Kd.R_types hrow.out n8_.out (by decide)) (fun _ hk => hk.2) _) (fun _ _ => trivial), by repeat (first | (with_reducible first | exact HB2_.out | apply below_alloc | apply pw_below_drewN | apply below_drew1 | refine below_set ?_ GE365.out) | exact HB2_.out)⟩
 ·replace c5 := Bool.eq_false_iff.mpr c5
  subst c5
  have H1 : (some (([] : List Int), false)) = some (q1, q2) := by rw [if_neg (show ¬ (false = true) by decide)] at H; exact H
  clear H
  have H := H1
  clear H1
  simp only [Option.some.injEq, Prod.mk.injEq] at H
  obtain ⟨rfl, rfl⟩ := H
  have h2 := H2_.out
  clear H2_
  rw [if_neg (by simp)] at h2
  simp only [Option.some.injEq, Prod.mk.injEq] at h2
  obtain ⟨rfl, rfl⟩ := h2
  go_enter Try.func39, Try.ntmps39
  go_wp2_with (first | ((with_reducible refine gate_dst (N := 3) rfl ?_); (try (refine gate_guard (by rfl) ?_; dsimp only)); refine box_event (by rfl) (N := 3) (by rfl) (cs := #[.slice A0_0 l0_0.length c0_0]) (t := 34) Z8 ?_; intro gb364 hg w33 hbox hb; have BK364 := Z (hbox); have GW364 := Z ((Z63 : w.heap.size ≤ gb364)); have GE364 := Z ((Z63 : w.heap.size ≤ gb364)); replace HB := Z (below_step Z42 hb); clear hb hbox hg) | ((with_reducible refine gate_dst (N := 6) rfl ?_); (try (refine gate_guard (by rfl) ?_; dsimp only)); refine box_event (by rfl) (N := 6) (by rfl) (cs := #[.slice none 0 0]) (t := 34) Z8 ?_; intro gb365 hg w34 hbox hb; have BK365 := Z (hbox); have GW365 := Z ((Z63 : w.heap.size ≤ gb365)); have GE365 := Z ((Z63 : w.heap.size ≤ gb365)); replace HB := Z (below_step Z42 hb); have NB364_365 := Z ((Z52 : gb364 ≠ gb365)); have NB365_364 := Z ((Z53 : gb365 ≠ gb364)); replace BK364 := Z (blk_below (g := gb364) (o := .cells #[.slice A0_0 l0_0.length c0_0] 34 (0, 0)) (Z10 BK364) hb); clear hb hbox hg; have hnb35 := NB364_365.out; have hnc35 := NB365_364.out; have hcz36_0 : w34.cell? ⟨gb364, 0, none⟩ = some (.slice A0_0 l0_0.length c0_0) := (blk_cell BK364.out 0).trans rfl; have hfz36_0 := blk_frozen BK364.out 0) | ((with_reducible refine gate_dst (N := 12) rfl ?_); (try (refine gate_guard (by rfl) ?_; dsimp only)); refine Kd.R_lit (Kd.int .i64) _ 3 (by rfl) (N := 12) (by rfl) (xs := ([a1] : List Int)) (inner := [.int .i64 a1]) (ok := fun _ => True) (okp := fun _ => True) Z8 (Reps.one (show Kd.M (Kd.int .i64) _ _ _ a1 [.int .i64 a1] from rfl) (Reps.none _ _)) (fun _ hk => hk) trivial (Below.refl _ _) (Nat.le_refl _) (by simp) ?_; intro v367 w37 ho38 hb hg_ hnew_; clear hg_ hnew_; (first | rw [← Ny366.out] at ho38 | (simp only [Int.reduceToNat] at ho38; rw [← Ny366.out] at ho38)); have HO368 := Z (Kd.R_lower ho38 (below_size Z42)); replace BK364 := Z (blk_below (g := gb364) (o := .cells #[.slice A0_0 l0_0.length c0_0] 34 (0, 0)) (Z10 BK364) hb); replace BK365 := Z (blk_below (g := gb365) (o := .cells #[.slice none 0 0] 34 (0, 0)) (Z10 BK365) hb); replace HB := Z (below_step Z42 hb); clear hb ho38; obtain ⟨Ao39, co39, eo39⟩ := Kd.R_slice HO368.out; subst eo39) | ((with_reducible refine gate_callee (f := 74) rfl ?_); refine goesL_ (some 13) rfl rfl Try.func74 Z0 rfl #[.agg #[.slice A0_0 l0_0.length c0_0], .slice Ao39 y366.length co39] rfl Z11 ?_; (with_reducible refine (impl_hasBlocks.calls _ _ l0_0 _ _ y366 false _ ?side1 ?side2 ?side3 ?side4 A4.out).mono ?_); (case side1 => exact (Z12 HR0_0)); (case side2 => exact HC0_0.out); (case side3 => exact (Z21 HO368)); (case side4 => exact (Kd.R_reads' HO368.out).2.1); rintro e w40 ⟨rfl, hb⟩; refine ⟨_, rfl, ?_⟩; replace HO368 := Z (Kd.R_below (Z14 HO368) hb); replace BK364 := Z (blk_below (g := gb364) (o := .cells #[.slice A0_0 l0_0.length c0_0] 34 (0, 0)) (Z10 BK364) hb); replace BK365 := Z (blk_below (g := gb365) (o := .cells #[.slice none 0 0] 34 (0, 0)) (Z10 BK365) hb); replace HB := Z (below_step Z42 hb); (try clear hb); (try clear hb2); (try clear hk); (try clear hi); have hcz41_0 : w40.cell? ⟨gb365, 0, none⟩ = some (.slice none 0 0) := (blk_cell BK365.out 0).trans rfl; have hfz41_0 := blk_frozen BK365.out 0))
  refine bodyPost_ret (results_ct rfl _ _ gb365 34 #[.slice none 0 0] (0, 0) _ rfl (Z18 BK365) Try.underlying34 rfl Z0) rfl ?_
  exact ⟨_, Z13, Z19, Z42⟩

/-! ### impl_PutItems: function 47 -/
def impl_PutItems.f (k : Nat) (l0_0 : List Int) (a1 : Int) (l2 : List (S51)) : Option (List Int × Bool) := (impl_Unparse.f k l2).bind fun bt376 => (if bt376.2 = true then ((impl_PutBlock.f l0_0 a1 bt376.1).bind fun bt380 => (some (bt380.1, bt380.2))) else (some (([] : List Int), false)))
theorem impl_PutItems.mono : ∀ a0 a1 a2 k, LeO (impl_PutItems.f k a0 a1 a2) (impl_PutItems.f (k + 1) a0 a1 a2) := by
 intro a0 a1 a2 k
 unfold impl_PutItems.f
 repeat' first
   | (with_reducible exact impl_Unparse.mono _ _)
   | (with_reducible exact LeO.refl _)
   | (with_reducible exact LeO.none _)
   | (with_reducible refine LeO.ite ?_ ?_)
   | (with_reducible refine LeO.bind ?_ (fun _ => ?_))
   | exact impl_Unparse.mono _ _
   | exact LeO.none _
   | refine LeO.ite ?_ ?_
   | refine LeO.bind ?_ (fun _ => ?_)
set_option maxHeartbeats 8000000 in
set_option maxRecDepth 100000 in
theorem impl_PutItems.calls (k : Nat) (A0_0 : Option Addr) (c0_0 : Nat) (l0_0 : List Int) (a1 : Int) (A2 : Option Addr) (c2 : Nat) (l2 : List (S51)) (r1 : List Int) (r2 : Bool) (w : World) (hr0_0 : Kd.C (Kd.int .u32) w A0_0 l0_0.length l0_0) (hc0_0 : l0_0.length ≤ c0_0) (hr2 : Kd.C k51 w A2 l2.length l2) (hc2 : l2.length ≤ c2) (h : impl_PutItems.f k l0_0 a1 l2 = some (r1, r2)) :
  Calls Try.prog 47 #[.agg #[.slice A0_0 l0_0.length c0_0], .int .i64 a1, .slice A2 l2.length c2] w fun e w' => ∃ v0_ : Value, e = .returned (.tuple #[.agg #[v0_], .bool r2]) ∧ Kd.R (Kd.int .u32) 47 w' w.heap.size (fun _ => True) v0_ r1 ∧ Below w.heap.size w w' := by
 have hu34 := Try.underlying34
 have HR0_0 := Aside0.mk hr0_0
 have HC0_0 := Aside0.mk hc0_0
 clear hr0_0 hc0_0
 have HR2 := Aside0.mk hr2
 have HC2 := Aside0.mk hc2
 clear hr2 hc2
 have HB := Z (Below.refl w.heap.size w)
 have H : ((impl_Unparse.f k l2).bind fun bt376 => (if bt376.2 = true then ((impl_PutBlock.f l0_0 a1 bt376.1).bind fun bt380 => (some (bt380.1, bt380.2))) else (some (([] : List Int), false)))) = some (r1, r2) := h
 clear h
 replace H := Option.bind_eq_some_iff.mp H
 obtain ⟨⟨t376, t377⟩, A40, H⟩ := H
 replace H : (if t377 = true then ((impl_PutBlock.f l0_0 a1 t376).bind fun bt380 => (some (bt380.1, bt380.2))) else (some (([] : List Int), false))) = some (r1, r2) := H
 have A4 := Aside0.mk A40
 clear A40
 by_cases c5 : t377 = true
 ·subst c5
  have H1 : ((impl_PutBlock.f l0_0 a1 t376).bind fun bt380 => (some (bt380.1, bt380.2))) = some (r1, r2) := Z7
  clear H
  have H := H1
  clear H1
  replace H := Option.bind_eq_some_iff.mp H
  obtain ⟨⟨t380, t383⟩, A60, H⟩ := H
  replace H : (some (t380, t383)) = some (r1, r2) := H
  have A6 := Aside0.mk A60
  clear A60
  simp only [Option.some.injEq, Prod.mk.injEq] at H
  obtain ⟨rfl, rfl⟩ := H
  go_enter Try.func47, Try.ntmps47
  go_wp2_with (first | ((with_reducible refine gate_dst (N := 3) rfl ?_); refine box_event (by rfl) (N := 3) (by rfl) (cs := #[.slice A0_0 l0_0.length c0_0]) (t := 34) Z8 ?_; intro gb374 hg w7 hbox hb; have BK374 := Z (hbox); have GW374 := Z ((Z63 : w.heap.size ≤ gb374)); have GE374 := Z ((Z63 : w.heap.size ≤ gb374)); replace HB := Z (below_step Z42 hb); clear hb hbox hg) | ((with_reducible refine gate_dst (N := 6) rfl ?_); refine box_event (by rfl) (N := 6) (by rfl) (cs := #[.slice none 0 0]) (t := 34) Z8 ?_; intro gb375 hg w8 hbox hb; have BK375 := Z (hbox); have GW375 := Z ((Z63 : w.heap.size ≤ gb375)); have GE375 := Z ((Z63 : w.heap.size ≤ gb375)); replace HB := Z (below_step Z42 hb); have NB374_375 := Z ((Z54 : gb374 ≠ gb375)); have NB375_374 := Z ((Z55 : gb375 ≠ gb374)); replace BK374 := Z (blk_below (g := gb374) (o := .cells #[.slice A0_0 l0_0.length c0_0] 34 (0, 0)) (Z10 BK374) hb); clear hb hbox hg) | ((with_reducible refine gate_callee (f := 16) rfl ?_); refine goesL_ (some 12) rfl rfl Try.func16 Z0 rfl #[.slice A2 l2.length c2] rfl Z11 ?_; (with_reducible refine (impl_Unparse.calls k _ _ l2 t376 true _ ?side1 ?side2 A4.out).mono ?_); (case side1 => exact (Z12 HR2)); (case side2 => exact HC2.out); rintro e w9 ⟨v378, rfl, ho0, hb⟩; refine ⟨_, rfl, ?_⟩; have HO379 := Z (Kd.R_lower ho0 (below_size Z42)); replace BK374 := Z (blk_below (g := gb374) (o := .cells #[.slice A0_0 l0_0.length c0_0] 34 (0, 0)) (Z10 BK374) hb); replace BK375 := Z (blk_below (g := gb375) (o := .cells #[.slice none 0 0] 34 (0, 0)) (Z10 BK375) hb); replace HB := Z (below_step Z42 hb); (try clear hb); (try clear hb2); (try clear hk); (try clear hi); (try clear ho0); have hnb10 := NB374_375.out; have hnc10 := NB375_374.out; have hcz11_0 : w9.cell? ⟨gb374, 0, none⟩ = some (.slice A0_0 l0_0.length c0_0) := (blk_cell BK374.out 0).trans rfl; have hfz11_0 := blk_frozen BK374.out 0; obtain ⟨Ao12, co12, eo12⟩ := Kd.R_slice HO379.out; subst eo12) | ((with_reducible refine gate_callee (f := 39) rfl ?_); refine goesL_ (some 21) rfl rfl Try.func39 Z0 rfl #[.agg #[.slice A0_0 l0_0.length c0_0], .int .i64 a1, .slice Ao12 t376.length co12] rfl Z11 ?_; (with_reducible refine (impl_PutBlock.calls _ _ l0_0 a1 _ _ t376 t380 t383 _ ?side1 ?side2 ?side3 ?side4 A6.out).mono ?_); (case side1 => exact (Z12 HR0_0)); (case side2 => exact HC0_0.out); (case side3 => exact (Z21 HO379)); (case side4 => exact (Kd.R_reads' HO379.out).2.1); rintro e w13 ⟨v381, rfl, ho0, hb⟩; refine ⟨_, rfl, ?_⟩; have HO382 := Z (Kd.R_lower (Kd.R_new' ho0 (Kd.R_lt (Z14 HO379))) (below_size Z42)); replace HO379 := Z (Kd.R_elder' (Z14 HO379) (Kd.R_base ho0) hb); replace BK374 := Z (blk_below (g := gb374) (o := .cells #[.slice A0_0 l0_0.length c0_0] 34 (0, 0)) (Z10 BK374) hb); replace BK375 := Z (blk_below (g := gb375) (o := .cells #[.slice none 0 0] 34 (0, 0)) (Z10 BK375) hb); replace HB := Z (below_step Z42 hb); (try clear hb); (try clear hb2); (try clear hk); (try clear hi); (try clear ho0); obtain ⟨Ao14, co14, eo14⟩ := Kd.R_slice HO382.out; subst eo14; have hcz15_0 : w13.cell? ⟨gb375, 0, none⟩ = some (.slice none 0 0) := (blk_cell BK375.out 0).trans rfl; have hfz15_0 := blk_frozen BK375.out 0))
  refine bodyPost_ret (results_ct rfl _ _ gb375 34 #[.slice Ao14 t380.length co14] (0, 0) _ rfl (Z18 BK375) Try.underlying34 rfl Z0) rfl ?_
  exact ⟨_, Z13, by (with_reducible repeat (first | apply Kd.R_alloc | apply Kd.R_drewN | apply Kd.R_drew)); exact Kd.R_mono (Kd.R_far (p := ⟨gb375, 0, none⟩) (Kd.R_types HO382.out BK375.out (by decide)) (fun _ hk => hk.2) (.slice Ao14 t380.length co14)) (fun _ hk => trivial), Z42⟩
 ·replace c5 := Bool.eq_false_iff.mpr c5
  subst c5
  have H1 : (some (([] : List Int), false)) = some (r1, r2) := by rw [if_neg (show ¬ (false = true) by decide)] at H; exact H
  clear H
  have H := H1
  clear H1
  simp only [Option.some.injEq, Prod.mk.injEq] at H
  obtain ⟨rfl, rfl⟩ := H
  go_enter Try.func47, Try.ntmps47
  go_wp2_with (first | ((with_reducible refine gate_dst (N := 3) rfl ?_); refine box_event (by rfl) (N := 3) (by rfl) (cs := #[.slice A0_0 l0_0.length c0_0]) (t := 34) Z8 ?_; intro gb374 hg w16 hbox hb; have BK374 := Z (hbox); have GW374 := Z ((Z63 : w.heap.size ≤ gb374)); have GE374 := Z ((Z63 : w.heap.size ≤ gb374)); replace HB := Z (below_step Z42 hb); clear hb hbox hg) | ((with_reducible refine gate_dst (N := 6) rfl ?_); refine box_event (by rfl) (N := 6) (by rfl) (cs := #[.slice none 0 0]) (t := 34) Z8 ?_; intro gb375 hg w17 hbox hb; have BK375 := Z (hbox); have GW375 := Z ((Z63 : w.heap.size ≤ gb375)); have GE375 := Z ((Z63 : w.heap.size ≤ gb375)); replace HB := Z (below_step Z42 hb); have NB374_375 := Z ((Z54 : gb374 ≠ gb375)); have NB375_374 := Z ((Z55 : gb375 ≠ gb374)); replace BK374 := Z (blk_below (g := gb374) (o := .cells #[.slice A0_0 l0_0.length c0_0] 34 (0, 0)) (Z10 BK374) hb); clear hb hbox hg) | ((with_reducible refine gate_callee (f := 16) rfl ?_); refine goesL_ (some 12) rfl rfl Try.func16 Z0 rfl #[.slice A2 l2.length c2] rfl Z11 ?_; (with_reducible refine (impl_Unparse.calls k _ _ l2 t376 false _ ?side1 ?side2 A4.out).mono ?_); (case side1 => exact (Z12 HR2)); (case side2 => exact HC2.out); rintro e w18 ⟨v378, rfl, ho0, hb⟩; refine ⟨_, rfl, ?_⟩; have HO379 := Z (Kd.R_lower ho0 (below_size Z42)); replace BK374 := Z (blk_below (g := gb374) (o := .cells #[.slice A0_0 l0_0.length c0_0] 34 (0, 0)) (Z10 BK374) hb); replace BK375 := Z (blk_below (g := gb375) (o := .cells #[.slice none 0 0] 34 (0, 0)) (Z10 BK375) hb); replace HB := Z (below_step Z42 hb); (try clear hb); (try clear hb2); (try clear hk); (try clear hi); (try clear ho0); have hnb19 := NB375_374.out; have hnc19 := NB374_375.out; have hcz20_0 : w18.cell? ⟨gb375, 0, none⟩ = some (.slice none 0 0) := (blk_cell BK375.out 0).trans rfl; have hfz20_0 := blk_frozen BK375.out 0))
  refine bodyPost_ret (results_ct rfl _ _ gb375 34 #[.slice none 0 0] (0, 0) _ rfl (Z18 BK375) Try.underlying34 rfl Z0) rfl ?_
  exact ⟨_, Z13, Z19, Z42⟩

/-! ### laws_eqItem: function 37 -/
def laws_eqItem.f (a0_0 : Int) (a0_1 : ByteArray) (a0_2 : Int) (a0_3 : Bool) (a0_4 : Int) (a1_0 : Int) (a1_1 : ByteArray) (a1_2 : Int) (a1_3 : Bool) (a1_4 : Int) : Option (Bool) := if a0_0 = a1_0 then (if a0_1.toList = a1_1.toList then (if a0_2 = a1_2 then (if (a0_3 != a1_3) = true then (some false) else (if a0_4 = a1_4 then (some true) else (some false))) else (some false)) else (some false)) else (some false)
set_option maxHeartbeats 8000000 in
set_option maxRecDepth 100000 in
theorem laws_eqItem.calls (a0_0 : Int) (a0_1 : ByteArray) (a0_2 : Int) (a0_3 : Bool) (a0_4 : Int) (a1_0 : Int) (a1_1 : ByteArray) (a1_2 : Int) (a1_3 : Bool) (a1_4 : Int) (r : Bool) (w : World) (h : laws_eqItem.f a0_0 a0_1 a0_2 a0_3 a0_4 a1_0 a1_1 a1_2 a1_3 a1_4 = some r) :
  Calls Try.prog 37 #[.agg #[.int .i64 a0_0, .string a0_1, .int .i32 a0_2, .bool a0_3, .int .u32 a0_4], .agg #[.int .i64 a1_0, .string a1_1, .int .i32 a1_2, .bool a1_3, .int .u32 a1_4]] w fun e w' => e = .returned (.bool r) ∧ Below w.heap.size w w' := by
 have hu51 := Try.underlying51
 have HB := Z (Below.refl w.heap.size w)
 have H : (if a0_0 = a1_0 then (if a0_1.toList = a1_1.toList then (if a0_2 = a1_2 then (if (a0_3 != a1_3) = true then (some false) else (if a0_4 = a1_4 then (some true) else (some false))) else (some false)) else (some false)) else (some false)) = some r := h
 clear h
 by_cases c3 : a0_0 = a1_0
 ·rw [if_pos c3] at H
  have c3b0 : (a0_0 == a1_0) = true := beq_iff_eq.mpr c3
  have c3b1 : (a0_0 != a1_0) = false := bne_eq_false_iff_eq.mpr c3
  clear c3
  by_cases c4 : a0_1.toList = a1_1.toList
  ·rw [if_pos c4] at H
   have c4b0 : (a0_1.toList == a1_1.toList) = true := beq_iff_eq.mpr c4
   have c4b1 : (a0_1.toList != a1_1.toList) = false := bne_eq_false_iff_eq.mpr c4
   clear c4
   by_cases c5 : a0_2 = a1_2
   ·rw [if_pos c5] at H
    have c5b0 : (a0_2 == a1_2) = true := beq_iff_eq.mpr c5
    have c5b1 : (a0_2 != a1_2) = false := bne_eq_false_iff_eq.mpr c5
    clear c5
    by_cases c6 : (a0_3 != a1_3) = true
    ·rw [if_pos c6] at H
     have c6b0 : (a0_3 != a1_3) = true := c6
     (try (have c6b1 : decide (a0_3 = a1_3) = false := by simpa using c6))
     (try (have c6b2 : (a0_3 == a1_3) = false := by simpa using c6))
     (try (have c6b3 : ¬ (a0_3 = a1_3) := by simpa using c6))
     clear c6
     obtain rfl := Option.some.inj H
     go_enter Try.func37, Try.ntmps37
     go_wp2_with (first | ((with_reducible refine gate_dst (N := 2) rfl ?_); refine box_event (by rfl) (N := 2) (by rfl) (cs := #[.int .i64 a0_0, .string a0_1, .int .i32 a0_2, .bool a0_3, .int .u32 a0_4]) (t := 51) Z8 ?_; intro gb384 hg w7 hbox hb; have BK384 := Z (hbox); have GW384 := Z ((Z63 : w.heap.size ≤ gb384)); have GE384 := Z ((Z63 : w.heap.size ≤ gb384)); replace HB := Z (below_step Z42 hb); clear hb hbox hg) | ((with_reducible refine gate_dst (N := 3) rfl ?_); refine box_event (by rfl) (N := 3) (by rfl) (cs := #[.int .i64 a1_0, .string a1_1, .int .i32 a1_2, .bool a1_3, .int .u32 a1_4]) (t := 51) Z8 ?_; intro gb385 hg w8 hbox hb; have BK385 := Z (hbox); have GW385 := Z ((Z63 : w.heap.size ≤ gb385)); have GE385 := Z ((Z63 : w.heap.size ≤ gb385)); replace HB := Z (below_step Z42 hb); have NB384_385 := Z ((Z56 : gb384 ≠ gb385)); have NB385_384 := Z ((Z57 : gb385 ≠ gb384)); replace BK384 := Z (blk_below (g := gb384) (o := .cells #[.int .i64 a0_0, .string a0_1, .int .i32 a0_2, .bool a0_3, .int .u32 a0_4] 51 (0, 0)) (Z10 BK384) hb); clear hb hbox hg; have hnb9 := NB384_385.out; have hnc9 := NB385_384.out; have hcz10_0 : w8.cell? ⟨gb384, 0, none⟩ = some (.int .i64 a0_0) := (blk_cell BK384.out 0).trans rfl; have hcz10_1 : w8.cell? ⟨gb384, 1, none⟩ = some (.string a0_1) := (blk_cell BK384.out 1).trans rfl; have hcz10_2 : w8.cell? ⟨gb384, 2, none⟩ = some (.int .i32 a0_2) := (blk_cell BK384.out 2).trans rfl; have hcz10_3 : w8.cell? ⟨gb384, 3, none⟩ = some (.bool a0_3) := (blk_cell BK384.out 3).trans rfl; have hcz10_4 : w8.cell? ⟨gb384, 4, none⟩ = some (.int .u32 a0_4) := (blk_cell BK384.out 4).trans rfl; have hfz10_0 := blk_frozen BK384.out 0; have hfz10_1 := blk_frozen BK384.out 1; have hfz10_2 := blk_frozen BK384.out 2; have hfz10_3 := blk_frozen BK384.out 3; have hfz10_4 := blk_frozen BK384.out 4; have hcz11_0 : w8.cell? ⟨gb385, 0, none⟩ = some (.int .i64 a1_0) := (blk_cell BK385.out 0).trans rfl; have hcz11_1 : w8.cell? ⟨gb385, 1, none⟩ = some (.string a1_1) := (blk_cell BK385.out 1).trans rfl; have hcz11_2 : w8.cell? ⟨gb385, 2, none⟩ = some (.int .i32 a1_2) := (blk_cell BK385.out 2).trans rfl; have hcz11_3 : w8.cell? ⟨gb385, 3, none⟩ = some (.bool a1_3) := (blk_cell BK385.out 3).trans rfl; have hcz11_4 : w8.cell? ⟨gb385, 4, none⟩ = some (.int .u32 a1_4) := (blk_cell BK385.out 4).trans rfl; have hfz11_0 := blk_frozen BK385.out 0; have hfz11_1 := blk_frozen BK385.out 1; have hfz11_2 := blk_frozen BK385.out 2; have hfz11_3 := blk_frozen BK385.out 3; have hfz11_4 := blk_frozen BK385.out 4))
     go_ret
     exact ⟨Z13, Z42⟩
    ·rw [if_neg c6] at H
     have c6b0 : (a0_3 != a1_3) = false := by simpa using c6
     (try (have c6b1 : decide (a0_3 = a1_3) = true := by simpa using c6))
     (try (have c6b2 : (a0_3 == a1_3) = true := by simpa using c6))
     clear c6
     by_cases c12 : a0_4 = a1_4
     ·rw [if_pos c12] at H
      have c12b0 : (a0_4 == a1_4) = true := beq_iff_eq.mpr c12
      have c12b1 : (a0_4 != a1_4) = false := bne_eq_false_iff_eq.mpr c12
      clear c12
      obtain rfl := Option.some.inj H
      go_enter Try.func37, Try.ntmps37
      go_wp2_with (first | ((with_reducible refine gate_dst (N := 2) rfl ?_); refine box_event (by rfl) (N := 2) (by rfl) (cs := #[.int .i64 a0_0, .string a0_1, .int .i32 a0_2, .bool a0_3, .int .u32 a0_4]) (t := 51) Z8 ?_; intro gb384 hg w13 hbox hb; have BK384 := Z (hbox); have GW384 := Z ((Z63 : w.heap.size ≤ gb384)); have GE384 := Z ((Z63 : w.heap.size ≤ gb384)); replace HB := Z (below_step Z42 hb); clear hb hbox hg) | ((with_reducible refine gate_dst (N := 3) rfl ?_); refine box_event (by rfl) (N := 3) (by rfl) (cs := #[.int .i64 a1_0, .string a1_1, .int .i32 a1_2, .bool a1_3, .int .u32 a1_4]) (t := 51) Z8 ?_; intro gb385 hg w14 hbox hb; have BK385 := Z (hbox); have GW385 := Z ((Z63 : w.heap.size ≤ gb385)); have GE385 := Z ((Z63 : w.heap.size ≤ gb385)); replace HB := Z (below_step Z42 hb); have NB384_385 := Z ((Z56 : gb384 ≠ gb385)); have NB385_384 := Z ((Z57 : gb385 ≠ gb384)); replace BK384 := Z (blk_below (g := gb384) (o := .cells #[.int .i64 a0_0, .string a0_1, .int .i32 a0_2, .bool a0_3, .int .u32 a0_4] 51 (0, 0)) (Z10 BK384) hb); clear hb hbox hg; have hnb15 := NB384_385.out; have hnc15 := NB385_384.out; have hcz16_0 : w14.cell? ⟨gb384, 0, none⟩ = some (.int .i64 a0_0) := (blk_cell BK384.out 0).trans rfl; have hcz16_1 : w14.cell? ⟨gb384, 1, none⟩ = some (.string a0_1) := (blk_cell BK384.out 1).trans rfl; have hcz16_2 : w14.cell? ⟨gb384, 2, none⟩ = some (.int .i32 a0_2) := (blk_cell BK384.out 2).trans rfl; have hcz16_3 : w14.cell? ⟨gb384, 3, none⟩ = some (.bool a0_3) := (blk_cell BK384.out 3).trans rfl; have hcz16_4 : w14.cell? ⟨gb384, 4, none⟩ = some (.int .u32 a0_4) := (blk_cell BK384.out 4).trans rfl; have hfz16_0 := blk_frozen BK384.out 0; have hfz16_1 := blk_frozen BK384.out 1; have hfz16_2 := blk_frozen BK384.out 2; have hfz16_3 := blk_frozen BK384.out 3; have hfz16_4 := blk_frozen BK384.out 4; have hcz17_0 : w14.cell? ⟨gb385, 0, none⟩ = some (.int .i64 a1_0) := (blk_cell BK385.out 0).trans rfl; have hcz17_1 : w14.cell? ⟨gb385, 1, none⟩ = some (.string a1_1) := (blk_cell BK385.out 1).trans rfl; have hcz17_2 : w14.cell? ⟨gb385, 2, none⟩ = some (.int .i32 a1_2) := (blk_cell BK385.out 2).trans rfl; have hcz17_3 : w14.cell? ⟨gb385, 3, none⟩ = some (.bool a1_3) := (blk_cell BK385.out 3).trans rfl; have hcz17_4 : w14.cell? ⟨gb385, 4, none⟩ = some (.int .u32 a1_4) := (blk_cell BK385.out 4).trans rfl; have hfz17_0 := blk_frozen BK385.out 0; have hfz17_1 := blk_frozen BK385.out 1; have hfz17_2 := blk_frozen BK385.out 2; have hfz17_3 := blk_frozen BK385.out 3; have hfz17_4 := blk_frozen BK385.out 4))
      go_ret
      exact ⟨Z13, Z42⟩
     ·rw [if_neg c12] at H
      have c12b0 : (a0_4 == a1_4) = false := beq_eq_false_iff_ne.mpr c12
      have c12b1 : (a0_4 != a1_4) = true := bne_iff_ne.mpr c12
      obtain rfl := Option.some.inj H
      go_enter Try.func37, Try.ntmps37
      go_wp2_with (first | ((with_reducible refine gate_dst (N := 2) rfl ?_); refine box_event (by rfl) (N := 2) (by rfl) (cs := #[.int .i64 a0_0, .string a0_1, .int .i32 a0_2, .bool a0_3, .int .u32 a0_4]) (t := 51) Z8 ?_; intro gb384 hg w18 hbox hb; have BK384 := Z (hbox); have GW384 := Z ((Z63 : w.heap.size ≤ gb384)); have GE384 := Z ((Z63 : w.heap.size ≤ gb384)); replace HB := Z (below_step Z42 hb); clear hb hbox hg) | ((with_reducible refine gate_dst (N := 3) rfl ?_); refine box_event (by rfl) (N := 3) (by rfl) (cs := #[.int .i64 a1_0, .string a1_1, .int .i32 a1_2, .bool a1_3, .int .u32 a1_4]) (t := 51) Z8 ?_; intro gb385 hg w19 hbox hb; have BK385 := Z (hbox); have GW385 := Z ((Z63 : w.heap.size ≤ gb385)); have GE385 := Z ((Z63 : w.heap.size ≤ gb385)); replace HB := Z (below_step Z42 hb); have NB384_385 := Z ((Z56 : gb384 ≠ gb385)); have NB385_384 := Z ((Z57 : gb385 ≠ gb384)); replace BK384 := Z (blk_below (g := gb384) (o := .cells #[.int .i64 a0_0, .string a0_1, .int .i32 a0_2, .bool a0_3, .int .u32 a0_4] 51 (0, 0)) (Z10 BK384) hb); clear hb hbox hg; have hnb20 := NB384_385.out; have hnc20 := NB385_384.out; have hcz21_0 : w19.cell? ⟨gb384, 0, none⟩ = some (.int .i64 a0_0) := (blk_cell BK384.out 0).trans rfl; have hcz21_1 : w19.cell? ⟨gb384, 1, none⟩ = some (.string a0_1) := (blk_cell BK384.out 1).trans rfl; have hcz21_2 : w19.cell? ⟨gb384, 2, none⟩ = some (.int .i32 a0_2) := (blk_cell BK384.out 2).trans rfl; have hcz21_3 : w19.cell? ⟨gb384, 3, none⟩ = some (.bool a0_3) := (blk_cell BK384.out 3).trans rfl; have hcz21_4 : w19.cell? ⟨gb384, 4, none⟩ = some (.int .u32 a0_4) := (blk_cell BK384.out 4).trans rfl; have hfz21_0 := blk_frozen BK384.out 0; have hfz21_1 := blk_frozen BK384.out 1; have hfz21_2 := blk_frozen BK384.out 2; have hfz21_3 := blk_frozen BK384.out 3; have hfz21_4 := blk_frozen BK384.out 4; have hcz22_0 : w19.cell? ⟨gb385, 0, none⟩ = some (.int .i64 a1_0) := (blk_cell BK385.out 0).trans rfl; have hcz22_1 : w19.cell? ⟨gb385, 1, none⟩ = some (.string a1_1) := (blk_cell BK385.out 1).trans rfl; have hcz22_2 : w19.cell? ⟨gb385, 2, none⟩ = some (.int .i32 a1_2) := (blk_cell BK385.out 2).trans rfl; have hcz22_3 : w19.cell? ⟨gb385, 3, none⟩ = some (.bool a1_3) := (blk_cell BK385.out 3).trans rfl; have hcz22_4 : w19.cell? ⟨gb385, 4, none⟩ = some (.int .u32 a1_4) := (blk_cell BK385.out 4).trans rfl; have hfz22_0 := blk_frozen BK385.out 0; have hfz22_1 := blk_frozen BK385.out 1; have hfz22_2 := blk_frozen BK385.out 2; have hfz22_3 := blk_frozen BK385.out 3; have hfz22_4 := blk_frozen BK385.out 4))
      go_ret
      exact ⟨Z13, Z42⟩
   ·rw [if_neg c5] at H
    have c5b0 : (a0_2 == a1_2) = false := beq_eq_false_iff_ne.mpr c5
    have c5b1 : (a0_2 != a1_2) = true := bne_iff_ne.mpr c5
    obtain rfl := Option.some.inj H
    go_enter Try.func37, Try.ntmps37
    go_wp2_with (first | ((with_reducible refine gate_dst (N := 2) rfl ?_); refine box_event (by rfl) (N := 2) (by rfl) (cs := #[.int .i64 a0_0, .string a0_1, .int .i32 a0_2, .bool a0_3, .int .u32 a0_4]) (t := 51) Z8 ?_; intro gb384 hg w23 hbox hb; have BK384 := Z (hbox); have GW384 := Z ((Z63 : w.heap.size ≤ gb384)); have GE384 := Z ((Z63 : w.heap.size ≤ gb384)); replace HB := Z (below_step Z42 hb); clear hb hbox hg) | ((with_reducible refine gate_dst (N := 3) rfl ?_); refine box_event (by rfl) (N := 3) (by rfl) (cs := #[.int .i64 a1_0, .string a1_1, .int .i32 a1_2, .bool a1_3, .int .u32 a1_4]) (t := 51) Z8 ?_; intro gb385 hg w24 hbox hb; have BK385 := Z (hbox); have GW385 := Z ((Z63 : w.heap.size ≤ gb385)); have GE385 := Z ((Z63 : w.heap.size ≤ gb385)); replace HB := Z (below_step Z42 hb); have NB384_385 := Z ((Z56 : gb384 ≠ gb385)); have NB385_384 := Z ((Z57 : gb385 ≠ gb384)); replace BK384 := Z (blk_below (g := gb384) (o := .cells #[.int .i64 a0_0, .string a0_1, .int .i32 a0_2, .bool a0_3, .int .u32 a0_4] 51 (0, 0)) (Z10 BK384) hb); clear hb hbox hg; have hnb25 := NB384_385.out; have hnc25 := NB385_384.out; have hcz26_0 : w24.cell? ⟨gb384, 0, none⟩ = some (.int .i64 a0_0) := (blk_cell BK384.out 0).trans rfl; have hcz26_1 : w24.cell? ⟨gb384, 1, none⟩ = some (.string a0_1) := (blk_cell BK384.out 1).trans rfl; have hcz26_2 : w24.cell? ⟨gb384, 2, none⟩ = some (.int .i32 a0_2) := (blk_cell BK384.out 2).trans rfl; have hcz26_3 : w24.cell? ⟨gb384, 3, none⟩ = some (.bool a0_3) := (blk_cell BK384.out 3).trans rfl; have hcz26_4 : w24.cell? ⟨gb384, 4, none⟩ = some (.int .u32 a0_4) := (blk_cell BK384.out 4).trans rfl; have hfz26_0 := blk_frozen BK384.out 0; have hfz26_1 := blk_frozen BK384.out 1; have hfz26_2 := blk_frozen BK384.out 2; have hfz26_3 := blk_frozen BK384.out 3; have hfz26_4 := blk_frozen BK384.out 4; have hcz27_0 : w24.cell? ⟨gb385, 0, none⟩ = some (.int .i64 a1_0) := (blk_cell BK385.out 0).trans rfl; have hcz27_1 : w24.cell? ⟨gb385, 1, none⟩ = some (.string a1_1) := (blk_cell BK385.out 1).trans rfl; have hcz27_2 : w24.cell? ⟨gb385, 2, none⟩ = some (.int .i32 a1_2) := (blk_cell BK385.out 2).trans rfl; have hcz27_3 : w24.cell? ⟨gb385, 3, none⟩ = some (.bool a1_3) := (blk_cell BK385.out 3).trans rfl; have hcz27_4 : w24.cell? ⟨gb385, 4, none⟩ = some (.int .u32 a1_4) := (blk_cell BK385.out 4).trans rfl; have hfz27_0 := blk_frozen BK385.out 0; have hfz27_1 := blk_frozen BK385.out 1; have hfz27_2 := blk_frozen BK385.out 2; have hfz27_3 := blk_frozen BK385.out 3; have hfz27_4 := blk_frozen BK385.out 4))
    go_ret
    exact ⟨Z13, Z42⟩
  ·rw [if_neg c4] at H
   have c4b0 : (a0_1.toList == a1_1.toList) = false := beq_eq_false_iff_ne.mpr c4
   have c4b1 : (a0_1.toList != a1_1.toList) = true := bne_iff_ne.mpr c4
   obtain rfl := Option.some.inj H
   go_enter Try.func37, Try.ntmps37
   go_wp2_with (first | ((with_reducible refine gate_dst (N := 2) rfl ?_); refine box_event (by rfl) (N := 2) (by rfl) (cs := #[.int .i64 a0_0, .string a0_1, .int .i32 a0_2, .bool a0_3, .int .u32 a0_4]) (t := 51) Z8 ?_; intro gb384 hg w28 hbox hb; have BK384 := Z (hbox); have GW384 := Z ((Z63 : w.heap.size ≤ gb384)); have GE384 := Z ((Z63 : w.heap.size ≤ gb384)); replace HB := Z (below_step Z42 hb); clear hb hbox hg) | ((with_reducible refine gate_dst (N := 3) rfl ?_); refine box_event (by rfl) (N := 3) (by rfl) (cs := #[.int .i64 a1_0, .string a1_1, .int .i32 a1_2, .bool a1_3, .int .u32 a1_4]) (t := 51) Z8 ?_; intro gb385 hg w29 hbox hb; have BK385 := Z (hbox); have GW385 := Z ((Z63 : w.heap.size ≤ gb385)); have GE385 := Z ((Z63 : w.heap.size ≤ gb385)); replace HB := Z (below_step Z42 hb); have NB384_385 := Z ((Z56 : gb384 ≠ gb385)); have NB385_384 := Z ((Z57 : gb385 ≠ gb384)); replace BK384 := Z (blk_below (g := gb384) (o := .cells #[.int .i64 a0_0, .string a0_1, .int .i32 a0_2, .bool a0_3, .int .u32 a0_4] 51 (0, 0)) (Z10 BK384) hb); clear hb hbox hg; have hnb30 := NB384_385.out; have hnc30 := NB385_384.out; have hcz31_0 : w29.cell? ⟨gb384, 0, none⟩ = some (.int .i64 a0_0) := (blk_cell BK384.out 0).trans rfl; have hcz31_1 : w29.cell? ⟨gb384, 1, none⟩ = some (.string a0_1) := (blk_cell BK384.out 1).trans rfl; have hcz31_2 : w29.cell? ⟨gb384, 2, none⟩ = some (.int .i32 a0_2) := (blk_cell BK384.out 2).trans rfl; have hcz31_3 : w29.cell? ⟨gb384, 3, none⟩ = some (.bool a0_3) := (blk_cell BK384.out 3).trans rfl; have hcz31_4 : w29.cell? ⟨gb384, 4, none⟩ = some (.int .u32 a0_4) := (blk_cell BK384.out 4).trans rfl; have hfz31_0 := blk_frozen BK384.out 0; have hfz31_1 := blk_frozen BK384.out 1; have hfz31_2 := blk_frozen BK384.out 2; have hfz31_3 := blk_frozen BK384.out 3; have hfz31_4 := blk_frozen BK384.out 4; have hcz32_0 : w29.cell? ⟨gb385, 0, none⟩ = some (.int .i64 a1_0) := (blk_cell BK385.out 0).trans rfl; have hcz32_1 : w29.cell? ⟨gb385, 1, none⟩ = some (.string a1_1) := (blk_cell BK385.out 1).trans rfl; have hcz32_2 : w29.cell? ⟨gb385, 2, none⟩ = some (.int .i32 a1_2) := (blk_cell BK385.out 2).trans rfl; have hcz32_3 : w29.cell? ⟨gb385, 3, none⟩ = some (.bool a1_3) := (blk_cell BK385.out 3).trans rfl; have hcz32_4 : w29.cell? ⟨gb385, 4, none⟩ = some (.int .u32 a1_4) := (blk_cell BK385.out 4).trans rfl; have hfz32_0 := blk_frozen BK385.out 0; have hfz32_1 := blk_frozen BK385.out 1; have hfz32_2 := blk_frozen BK385.out 2; have hfz32_3 := blk_frozen BK385.out 3; have hfz32_4 := blk_frozen BK385.out 4))
   go_ret
   exact ⟨Z13, Z42⟩
 ·rw [if_neg c3] at H
  have c3b0 : (a0_0 == a1_0) = false := beq_eq_false_iff_ne.mpr c3
  have c3b1 : (a0_0 != a1_0) = true := bne_iff_ne.mpr c3
  obtain rfl := Option.some.inj H
  go_enter Try.func37, Try.ntmps37
  go_wp2_with (first | ((with_reducible refine gate_dst (N := 2) rfl ?_); refine box_event (by rfl) (N := 2) (by rfl) (cs := #[.int .i64 a0_0, .string a0_1, .int .i32 a0_2, .bool a0_3, .int .u32 a0_4]) (t := 51) Z8 ?_; intro gb384 hg w33 hbox hb; have BK384 := Z (hbox); have GW384 := Z ((Z63 : w.heap.size ≤ gb384)); have GE384 := Z ((Z63 : w.heap.size ≤ gb384)); replace HB := Z (below_step Z42 hb); clear hb hbox hg) | ((with_reducible refine gate_dst (N := 3) rfl ?_); refine box_event (by rfl) (N := 3) (by rfl) (cs := #[.int .i64 a1_0, .string a1_1, .int .i32 a1_2, .bool a1_3, .int .u32 a1_4]) (t := 51) Z8 ?_; intro gb385 hg w34 hbox hb; have BK385 := Z (hbox); have GW385 := Z ((Z63 : w.heap.size ≤ gb385)); have GE385 := Z ((Z63 : w.heap.size ≤ gb385)); replace HB := Z (below_step Z42 hb); have NB384_385 := Z ((Z56 : gb384 ≠ gb385)); have NB385_384 := Z ((Z57 : gb385 ≠ gb384)); replace BK384 := Z (blk_below (g := gb384) (o := .cells #[.int .i64 a0_0, .string a0_1, .int .i32 a0_2, .bool a0_3, .int .u32 a0_4] 51 (0, 0)) (Z10 BK384) hb); clear hb hbox hg; have hnb35 := NB384_385.out; have hnc35 := NB385_384.out; have hcz36_0 : w34.cell? ⟨gb384, 0, none⟩ = some (.int .i64 a0_0) := (blk_cell BK384.out 0).trans rfl; have hcz36_1 : w34.cell? ⟨gb384, 1, none⟩ = some (.string a0_1) := (blk_cell BK384.out 1).trans rfl; have hcz36_2 : w34.cell? ⟨gb384, 2, none⟩ = some (.int .i32 a0_2) := (blk_cell BK384.out 2).trans rfl; have hcz36_3 : w34.cell? ⟨gb384, 3, none⟩ = some (.bool a0_3) := (blk_cell BK384.out 3).trans rfl; have hcz36_4 : w34.cell? ⟨gb384, 4, none⟩ = some (.int .u32 a0_4) := (blk_cell BK384.out 4).trans rfl; have hfz36_0 := blk_frozen BK384.out 0; have hfz36_1 := blk_frozen BK384.out 1; have hfz36_2 := blk_frozen BK384.out 2; have hfz36_3 := blk_frozen BK384.out 3; have hfz36_4 := blk_frozen BK384.out 4; have hcz37_0 : w34.cell? ⟨gb385, 0, none⟩ = some (.int .i64 a1_0) := (blk_cell BK385.out 0).trans rfl; have hcz37_1 : w34.cell? ⟨gb385, 1, none⟩ = some (.string a1_1) := (blk_cell BK385.out 1).trans rfl; have hcz37_2 : w34.cell? ⟨gb385, 2, none⟩ = some (.int .i32 a1_2) := (blk_cell BK385.out 2).trans rfl; have hcz37_3 : w34.cell? ⟨gb385, 3, none⟩ = some (.bool a1_3) := (blk_cell BK385.out 3).trans rfl; have hcz37_4 : w34.cell? ⟨gb385, 4, none⟩ = some (.int .u32 a1_4) := (blk_cell BK385.out 4).trans rfl; have hfz37_0 := blk_frozen BK385.out 0; have hfz37_1 := blk_frozen BK385.out 1; have hfz37_2 := blk_frozen BK385.out 2; have hfz37_3 := blk_frozen BK385.out 3; have hfz37_4 := blk_frozen BK385.out 4))
  go_ret
  exact ⟨Z13, Z42⟩

end Go.Proofs.Ytkkiibjnpkjijaa.QFnExactPutItems
