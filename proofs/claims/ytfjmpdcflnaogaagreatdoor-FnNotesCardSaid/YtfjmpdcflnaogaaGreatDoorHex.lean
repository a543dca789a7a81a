/-
Hexadecimal numerals: the library's walk at base 16; no conditions beyond those written.
-/
import Derived.Test.YtfjmpdcflnaogaaGreatDoorProg
import Derived.Test.YtfjmpdcflnaogaaGreatDoorWWords
import Derived.WalkKit
import Derived.ProofKit
import Derived.LoopN
import Derived.Lib.SliceRun
import Derived.Laws.Externs
import Derived.Lib.Bytealg
import Derived.Lib.ItoaMem
namespace Go.Proofs.YtfjmpdcflnaogaaGreatDoor.Hex
open Go.RowKit Go.Proofs.YtfjmpdcflnaogaaGreatDoorW.PrintWords
set_option maxRecDepth 100000
set_option linter.unusedVariables false
theorem tz (w : World) (hc : w.cell? ⟨5, 15, none⟩ = some (.int .u8 4)) : Calls Tryz.prog 144 #[.int .u64 16] w fun e w' => e = .returned (.int .i64 4) ∧ w' = w := by
  have hidx : IntKind.u64.wrap (bits BinOp.and IntKind.u64 16 (IntKind.u64.wrap (-16)) * 285870213051353865) / 288230376151711744 = 15 := by kernel_rfl
  go_enter Tryz.func144, Tryz.ntmps144
  go_wp2_with (go_at_call 156; go_in)
  go_ret
  exact ⟨rfl, rfl⟩
theorem pow2 (w : World) : Calls Tryz.prog 143 #[.int .i64 16] w fun e w' => e = .returned (.bool true) ∧ w' = w := by
  have hb : bits BinOp.and IntKind.i64 16 (IntKind.i64.wrap (16 - 1)) = 0 := by kernel_rfl
  have hb2 : bits BinOp.and IntKind.i64 16 15 = 0 := by kernel_rfl
  go_enter Tryz.func143, Tryz.ntmps143
  go_wp2
  go_ret
  exact ⟨by first | rfl | (simp [hb]; done) | (simp [hb2]; done) | trace_state, rfl⟩
def hexDig (d : Nat) : UInt8 := if d < 10 then UInt8.ofNat (48 + d) else UInt8.ofNat (87 + d)
def hexL (u : Nat) : List UInt8 := if h : u < 16 then [hexDig u] else hexL (u / 16) ++ [hexDig (u % 16)]
termination_by u
decreasing_by omega
def b8 (b : UInt8) : Value := .int .u8 (b.toNat : Int)
def cellsOf (ds : List UInt8) : Array Value := (List.replicate (65 - ds.length) (Value.int .u8 0) ++ ds.map b8).toArray
theorem cells_at (ds : List UInt8) (i : Nat) (h : i + ds.length < 65) : (cellsOf ds)[i]? = some (Value.int .u8 0) := by
  unfold cellsOf
  rw [List.getElem?_toArray, List.getElem?_append_left (by rw [List.length_replicate]; omega), List.getElem?_replicate, if_pos (by omega)]
theorem cells_put (b : UInt8) (ds : List UInt8) (i : Nat) (h : i + ds.length = 64) : (cellsOf ds).setIfInBounds i (b8 b) = cellsOf (b :: ds) := by
  unfold cellsOf
  apply Array.toList_inj.1
  rw [Array.toList_setIfInBounds, List.toList_toArray, List.toList_toArray, show 65 - ds.length = i + 1 by omega, List.length_cons, show 65 - (ds.length + 1) = i by omega, List.replicate_succ', List.append_assoc, List.map_cons, List.singleton_append, List.set_append_right _ _ (by rw [List.length_replicate]; exact Nat.le_refl _), List.length_replicate, Nat.sub_self, List.set_cons_zero]
theorem cells_get (l : List UInt8) (i k : Nat) (hk : k < l.length) (h : l.length + i = 65) : (cellsOf l)[i + k]? = some (Value.int .u8 (l[k].toNat : Int)) := by
  unfold cellsOf
  rw [List.getElem?_toArray, List.getElem?_append_right (by rw [List.length_replicate]; omega), List.length_replicate, show i + k - (65 - l.length) = k by omega, List.getElem?_map, List.getElem?_eq_getElem hk]
  rfl
theorem hexL_small {u : Nat} (h : u < 16) : hexL u = [hexDig u] := by rw [hexL, dif_pos h]
theorem hexL_step {u : Nat} (h : ¬ u < 16) : hexL u = hexL (u / 16) ++ [hexDig (u % 16)] := by rw [hexL, dif_neg h]
def digs : ByteArray := ⟨#[48, 49, 50, 51, 52, 53, 54, 55, 56, 57, 97, 98, 99, 100, 101, 102, 103, 104, 105, 106, 107, 108, 109, 110, 111, 112, 113, 114, 115, 116, 117, 118, 119, 120, 121, 122]⟩
theorem dig_at (u : Nat) (h : u < 16) : (⟨#[48, 49, 50, 51, 52, 53, 54, 55, 56, 57, 97, 98, 99, 100, 101, 102, 103, 104, 105, 106, 107, 108, 109, 110, 111, 112, 113, 114, 115, 116, 117, 118, 119, 120, 121, 122]⟩ : ByteArray)[u]'(Nat.lt_of_lt_of_le h (by decide)) = hexDig u := by
  match u, h with
  | 0, _ => rfl
  | 1, _ => rfl
  | 2, _ => rfl
  | 3, _ => rfl
  | 4, _ => rfl
  | 5, _ => rfl
  | 6, _ => rfl
  | 7, _ => rfl
  | 8, _ => rfl
  | 9, _ => rfl
  | 10, _ => rfl
  | 11, _ => rfl
  | 12, _ => rfl
  | 13, _ => rfl
  | 14, _ => rfl
  | 15, _ => rfl
  | n + 16, h => omega
theorem bits_and15 (u : Nat) (h : u < 4294967296) : bits BinOp.and IntKind.u64 (u : Int) 15 = ((u % 16 : Nat) : Int) := by
  have e := bits_mask .u64 64 (by decide) (fun n h0 h1 => by rw [IntKind.wrap_u64]; omega) 4 (by decide) (u : Int) (by omega) (by omega)
  rw [show ((2 : Int) ^ 4 - 1) = 15 by decide] at e
  rw [e]
  omega
set_option maxHeartbeats 4000000 in
theorem formatBits (n : Nat) (hn : n < 4294967296) (w : World) (hc : w.cell? ⟨5, 15, none⟩ = some (.int .u8 4)) :
    Calls Tryz.prog 125 #[Value.slice none 0 0, .int .u64 n, .int .i64 16, .bool false, .bool false] w fun e w' => (∃ v, e = .returned (.tuple #[v, .string ⟨(hexL n).toArray⟩])) ∧ Below w.heap.size w w' := by
  have HB := Aside0.mk (Below.refl w.heap.size w)
  go_enter Tryz.func125, Tryz.ntmps125
  go_wp2_with (first | (go_at_call 143; refine (pow2 _).mono ?_; rintro e w' ⟨rfl, rfl⟩) | (go_at_call 144; refine (tz _ (by first | exact hc | (refine (World.cell?_alloc_lt w _ _ ?_).trans hc; exact World.block_lt_of_cell? w _ hc))).mono ?_; rintro e w' ⟨rfl, rfl⟩))
  go_loopg [1, 13] 8 (fun kq v1 v13 w' => ∃ (u i : Nat) (j : Int) (ds : List UInt8), v1 = .int .u64 (u : Int) ∧ v13 = .int .i64 j ∧ Aside0 (j = (i : Int) + 1 ∧ i + ds.length = 64) ∧ Aside0 (u < 16 ^ (kq + 1) ∧ u ≤ n) ∧ Aside0 (kq + ds.length ≤ 8) ∧ Aside0 (hexL u ++ ds = hexL n) ∧ Aside0 (w'.heap[w.heap.size]? = some (.cells (cellsOf ds) 141 (0, 0))) ∧ Aside0 (Below w.heap.size w w'))
  case atStart =>
    refine ⟨n, 64, 65, [], rfl, rfl, ⟨by omega, rfl⟩, ⟨by omega, Nat.le_refl _⟩, ⟨by decide⟩, ⟨by rw [List.append_nil]⟩, ⟨?_⟩, ⟨?_⟩⟩
    · rw [blk_new]; exact (show some (Obj.cells Tryz.zeroCells141 141) = some (Obj.cells (cellsOf []) 141 (0, 0)) by kernel_rfl)
    · exact below_alloc HB.out _
  case round =>
    obtain ⟨u, i, j, ds, rfl, rfl, HJ, HU, HK, HD, HG, HB⟩ := hrel
    clear hc
    have hw : IntKind.i64.wrap (j - 1) = (i : Int) := by rw [IntKind.wrap_i64, HJ.out.1]; have := HJ.out.2; omega
    by_cases hu : u < 16
    · have hcell : wr.cell? ⟨w.heap.size, i, none⟩ = some (.int .u8 0) := (blk_cell HG.out i).trans (cells_at ds i (by have := HJ.out.2; omega))
      have hfr : wr.frozen? ⟨w.heap.size, i, none⟩ = false := blk_frozen HG.out i
      have h36 : ((u : Int) < 36) = True := eq_true (by omega)
      have h65 : ((i : Int) < 65) = True := eq_true (by have := HJ.out.2; omega)
      have h1 : decide ((16 : Int) ≤ (u : Int)) = false := by rw [decide_eq_false_iff_not]; omega
      have hdig := dig_at u hu
      have hi65 : i ≤ 64 := by have := HJ.out.2; omega
      have hal : Tryz.prog.arrayLen 141 = 65 := by simp [Program.arrayLen, Tryz.underlying141]
      have hsl : ∀ W, (Instr.sliceAt 141 (.pointer (some ⟨w.heap.size, 0, none⟩)) (some (.int .i64 (i : Int))) none none).run Tryz.prog W = .ok (.slice (some ⟨w.heap.size, i, none⟩) (65 - i) (65 - i)) W := fun W => by
        rw [run_sliceAt_array_l W 141 ⟨w.heap.size, 0, none⟩ (by simp [Program.arrayLen, Program.elem, Tryz.underlying141]) .i64 (i : Int) (by omega) (by rw [hal]; omega), hal]
        go_simp
        omega
      clear hal hi65
      go_wp2_with fail
      generalize hW : (wr.setCell ⟨w.heap.size, i, none⟩ _) = w2
      have HG2 : Aside0 (w2.heap[w.heap.size]? = some (.cells (cellsOf (hexL n)) 141 (0, 0))) := ⟨by
        rw [← hW, blk_set HG.out, ← HD.out, hexL_small hu, List.singleton_append, ← cells_put (hexDig u) ds i HJ.out.2]
        rfl⟩
      have HB2 : Aside0 (Below w.heap.size w w2) := ⟨by rw [← hW]; exact below_set HB.out (Nat.le_refl _)⟩
      have hlen : (hexL n).length = 65 - i := by
        rw [← HD.out, hexL_small hu, List.length_append, List.length_singleton]; have := HJ.out.2; omega
      have hi65 : i ≤ 64 := by have := HJ.out.2; omega
      clear hW hcell hfr hw
      have hcv : (convert 22 9 (.slice (some ⟨w.heap.size, i, none⟩) (65 - i) (65 - i))).run Tryz.prog w2 = .ok (.string ⟨(hexL n).toArray⟩) w2 := by
        have h := run_convert_bytes_back (P := Tryz.prog) w2 22 9 5 ⟨w.heap.size, i, none⟩ (65 - i) (hexL n) Tryz.underlying22 Tryz.underlying5 Tryz.underlying9 (fun k hk => by
          rw [Lib.add_plain, blk_cell HG2.out]
          exact cells_get (hexL n) i k hk (by omega))
        rw [hlen] at h
        exact h
      clear hlen hi65
      rw [hcv]
      simp only [Result.andThen]
      rw [Oper.upon_value]
      go_wp2
      go_ret2
      exact ⟨⟨_, rfl⟩, HB2.out⟩
    · cases gk with
      | zero => exact absurd HU.out.1 (by omega)
      | succ k1 =>
        have h1 : decide ((16 : Int) ≤ (u : Int)) = true := by rw [decide_eq_true_iff]; omega
        have hcell : wr.cell? ⟨w.heap.size, i, none⟩ = some (.int .u8 0) := (blk_cell HG.out i).trans (cells_at ds i (by have := HJ.out.2; omega))
        have hfr : wr.frozen? ⟨w.heap.size, i, none⟩ = false := blk_frozen HG.out i
        have hm : u % 16 < 16 := Nat.mod_lt _ (by decide)
        have h36 : (((u % 16 : Nat) : Int) < 36) = True := eq_true (by omega)
        have h65 : ((i : Int) < 65) = True := eq_true (by have := HJ.out.2; omega)
        have hand : bits BinOp.and IntKind.u64 (u : Int) 15 = ((u % 16 : Nat) : Int) := bits_and15 u (by have := HU.out.2; omega)
        have hdig := dig_at (u % 16) hm
        go_wp2_with fail
        have HG2 : Aside0 ((wr.setCell ⟨w.heap.size, i, none⟩ (Value.int .u8 ((hexDig (u % 16)).toNat : Int))).heap[w.heap.size]? = some (.cells (cellsOf (hexDig (u % 16) :: ds)) 141 (0, 0))) := ⟨by
          rw [blk_set HG.out, ← cells_put (hexDig (u % 16)) ds i HJ.out.2]; rfl⟩
        have HB2 : Aside0 (Below w.heap.size w (wr.setCell ⟨w.heap.size, i, none⟩ (Value.int .u8 ((hexDig (u % 16)).toNat : Int)))) := ⟨below_set HB.out (Nat.le_refl _)⟩
        obtain ⟨i0, rfl⟩ : ∃ i0, i = i0 + 1 := ⟨i - 1, by have := HJ.out.2; have := HK.out; omega⟩
        go_roundg k1
        case measure => omega
        case rel =>
          refine ⟨u / 16, i0, _, hexDig (u % 16) :: ds, rfl, rfl, ⟨by omega, by have := HJ.out.2; rw [List.length_cons]; omega⟩, ⟨?_, by have := HU.out.2; omega⟩, ⟨by have := HK.out; rw [List.length_cons]; omega⟩, ⟨?_⟩, HG2, HB2⟩
          · have := HU.out.1
            rw [Nat.pow_succ] at this
            omega
          · rw [← HD.out, hexL_step hu, List.append_assoc, List.singleton_append]
theorem inner (n : Nat) (hn : n < 4294967296) (w : World) (hc : w.cell? ⟨5, 15, none⟩ = some (.int .u8 4)) :
    Calls Tryz.prog 101 #[.int .u64 n, .int .i64 16] w fun e w' => e = .returned (.string ⟨(hexL n).toArray⟩) ∧ Below w.heap.size w w' := by
  go_enter Tryz.func101, Tryz.ntmps101
  go_wp2_with (go_at_call 125; refine (formatBits n hn _ hc).mono ?_; rintro e w' ⟨⟨v, rfl⟩, hb⟩)
  go_ret
  exact ⟨rfl, hb⟩
theorem outer (n : Nat) (hn : n < 4294967296) (w : World) (hc : w.cell? ⟨5, 15, none⟩ = some (.int .u8 4)) :
    Calls Tryz.prog 77 #[.int .u64 n, .int .i64 16] w fun e w' => e = .returned (.string ⟨(hexL n).toArray⟩) ∧ Below w.heap.size w w' := by
  go_enter Tryz.func77, Tryz.ntmps77
  go_wp2_with (go_at_call 101; refine (inner n hn _ hc).mono ?_; rintro e w' ⟨rfl, hb⟩)
  go_ret
  exact ⟨rfl, hb⟩
theorem hexText (n : Nat) (hn : n < 4294967296) (w : World) (hc : w.cell? ⟨5, 15, none⟩ = some (.int .u8 4)) :
    Calls Tryz.prog 45 #[.int .u32 n] w fun e w' => e = .returned (.string ⟨(hexL n).toArray⟩) ∧ Below w.heap.size w w' := by
  have hw : IntKind.u64.wrap (n : Int) = (n : Int) := by rw [IntKind.wrap_u64]; omega
  go_enter Tryz.func45, Tryz.ntmps45
  go_wp2_with (go_at_call 77; refine (outer n hn _ hc).mono ?_; rintro e w' ⟨rfl, hb⟩)
  go_ret
  exact ⟨rfl, hb⟩
end Go.Proofs.YtfjmpdcflnaogaaGreatDoor.Hex
