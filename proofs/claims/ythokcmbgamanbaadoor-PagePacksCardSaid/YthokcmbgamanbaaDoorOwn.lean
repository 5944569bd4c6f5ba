/- A made row; the helpers Own, Kept and CopyBytes at bytes. -/
import Derived.Test.YthokcmbgamanbaaDoorFits
namespace Go.Proofs.YthokcmbgamanbaaDoor
open Go.RowKit
/-- What Own gives: a row of its own with three more behind it. -/
structure OwnAt (f : Int → List Value) (e : TypeId) (w : World) (g : Nat) (L : List Int) (x : Int) : Prop where
  blk : w.heap[g]? = some (.cells ((L ++ List.replicate 3 x).flatMap f).toArray e (0, 0))
theorem info_tByte : (Tryd.prog.info? 5).map (fun i => (i.zero, i.size, i.bytes)) = some (some (.int .u8 0), 1, 1) := by kernel_rfl
theorem made_bytes (n : Nat) : (madeCells (Value.int .u8 0).cells n).toList = (List.replicate n (0 : Int)).flatMap u8c := by
  have hL : ((List.replicate n (0 : Int)).flatMap u8c).length = n := by rw [flat_length u8c_length]; simp
  have hM : (madeCells (Value.int .u8 0).cells n).toList.length = n := by simp [madeCells]
  apply List.ext_getElem?
  intro i
  by_cases h : i < n
  · have h2 : ((List.replicate n (0 : Int)).flatMap u8c)[i]? = some (.int .u8 0) := by
      have := flat_get u8c_length (L := List.replicate n (0 : Int)) (k := i) (j := 0) (x := 0) (by simp [h]) (by decide)
      simpa [u8c] using this
    rw [h2]
    simp [madeCells, Value.cells, h, Nat.mod_one]
  · rw [List.getElem?_eq_none (by omega), List.getElem?_eq_none (by omega)]
set_option maxRecDepth 100000 in
set_option maxHeartbeats 800000 in
theorem ownByte_any (w : World) (ad : Option Addr) (cap : Nat) (L : List Int) (x : Int) (hr : Reads w 1 (.slice ad L.length cap) L.length (L.flatMap u8c)) (hl : L.length ≤ 1000000) :
    Calls Tryd.prog 12 #[.slice ad L.length cap, .int .u8 x] w fun e w' => e = .returned (.slice (some ⟨w.heap.size, 0, none⟩) L.length (L.length + 3)) ∧ OwnAt u8c 5 w' w.heap.size L x ∧ Keeps (fun _ => False) w w' := by
  obtain ⟨i0, hi, hi0, hi1, hi2⟩ := info_parts info_tByte
  have hmk := fun (W : World) => run_makeSlice (P := Tryd.prog) W 31 5 i0 (.int .u8 0) Tryd.underlying31 hi hi0 .i64 .i64 0 ((L.length : Int) + 3) (by omega) (by omega) (by rw [hi1]; omega) (by rw [hi2]; omega) (by omega)
  have hn3 : ((L.length : Int) + 3).toNat = L.length + 3 := by omega
  simp only [hn3, Int.toNat_zero, hi1, Nat.mul_one] at hmk
  obtain ⟨Z, hZ⟩ : ∃ Z, Z = madeCells (Value.int .u8 0).cells (L.length + 3) := ⟨_, rfl⟩
  rw [← hZ] at hmk
  have hZl : Z.toList = (List.replicate (L.length + 3) (0 : Int)).flatMap u8c := by rw [hZ]; exact made_bytes _
  have hone := u8c_one L
  have Hr := Lib.hid hr; clear hr; have HZ := Lib.hid hZ; clear hZ; have HZl := Lib.hid hZl; clear hZl; have Hn3 := Lib.hid hn3; clear hn3; have Hone := Lib.hid hone; clear hone
  go_enter Tryd.func12, Tryd.ntmps12
  go_wp2_with (at_builtin; refine wpList_append_fits rfl (.tmp 12) (.tmp 13) 31 rfl 5 i0 1 Tryd.underlying31 hi hi1 w.heap.size 0 (L.length + 3) Z.toList rfl (by simpa using heap_alloc_new w (.cells Z 5)) (by rw [HZl.out, flat_length u8c_length]; simp) (by unfold maxLen; omega) _ L.length _ rfl (Hr.out.alloc _) Hone.out (by omega) ?_)
  intro w2 hb2 hk2
  have hb3 : w2.heap[w.heap.size]? = some (.cells ((L ++ List.replicate 0 x ++ List.replicate 3 (0 : Int)).flatMap u8c).toArray 5 (0, 0)) := by
    rw [hb2, HZl.out]
    congr 3
    unfold laid
    have e1 := flat_dropk u8c_length (List.replicate (L.length + 3) (0 : Int)) L.length
    simp only [Nat.mul_one, List.drop_replicate] at e1
    simp only [Nat.zero_mul, List.take_zero, List.nil_append, Nat.zero_add, flat_length u8c_length, Nat.mul_one, e1, List.flatMap_append, List.replicate_zero, List.flatMap_nil, List.append_nil]
    rw [show L.length + 3 - L.length = 3 by omega]
  have hkp2 : Keeps (fun _ => False) w w2 := (Keeps.alloc _ _).trans (hk2.mono fun k _ e => by right; omega)
  have Hb3 := Lib.hid hb3; clear hb3; have Hkp2 := Lib.hid hkp2; clear hkp2
  clear hb2 hk2
  clear hmk
  go_wp2
  go_loopw [7] (fun c wr => ∃ (j : Nat), j ≤ 3 ∧ c = .int .i64 ((L.length + j : Nat) : Int) ∧ wr.heap[w.heap.size]? = some (.cells ((L ++ List.replicate j x ++ List.replicate (3 - j) (0 : Int)).flatMap u8c).toArray 5 (0, 0)) ∧ Keeps (fun _ => False) w wr) (fun c _ => L.length + 3 - (intOf c).toNat)
  case atStart => exact ⟨0, by omega, by simp, Hb3.out, Hkp2.out⟩
  case round =>
    obtain ⟨j, hj, rfl, hb, hk⟩ := hrel
    by_cases hj3 : j < 3
    · obtain ⟨m, hm⟩ : ∃ m, 3 - j = m + 1 := ⟨3 - j - 1, by omega⟩
      have hc : wr.cell? ⟨w.heap.size, L.length + j, none⟩ = some (.int .u8 0) := by
        rw [cell_of_cells hb, List.getElem?_toArray]
        have := flat_get u8c_length (L := L ++ List.replicate j x ++ List.replicate (3 - j) (0 : Int)) (k := L.length + j) (j := 0) (x := 0) (by rw [List.getElem?_append_right (by simp)]; simp [hm]) (by decide)
        simpa [u8c] using this
      have hf := free_of_cells hb (L.length + j)
      have hbl := lt_of_block hb
      have hnext : (wr.setCell ⟨w.heap.size, L.length + j, none⟩ (.int .u8 x)).heap[w.heap.size]? = some (.cells ((L ++ List.replicate (j + 1) x ++ List.replicate (3 - (j + 1)) (0 : Int)).flatMap u8c).toArray 5 (0, 0)) := by
        have h1 := heap_setCell_same _ _ (L.length + j) _ _ (.int .u8 x) hb
        rw [h1]
        congr 3
        have e := flat_set u8c_length (L := L ++ List.replicate j x ++ List.replicate (3 - j) (0 : Int)) (k := L.length + j) (j := 0) (x := 0) (y := x) (u := .int .u8 x) (by rw [List.getElem?_append_right (by simp)]; simp [hm]) (by decide) rfl
        rw [hm, rep_snoc] at e
        rw [show 3 - (j + 1) = m by omega, ← e, hm]
        simp
      have hkn : Keeps (fun _ => False) w (wr.setCell ⟨w.heap.size, L.length + j, none⟩ (.int .u8 x)) := hk.trans (Keeps.setCell _ _ _ (.inr (Nat.le_refl _)))
      have hjl : ((L.length + j : Nat) : Int) < (L.length : Int) + 3 := by omega
      have Hb := Lib.hid hb; clear hb; have Hk := Lib.hid hk; clear hk; have Hnext := Lib.hid hnext; clear hnext; have Hkn := Lib.hid hkn; clear hkn; have Hm := Lib.hid hm; clear hm
      go_wp2
      go_roundw
      case rel => exact ⟨j + 1, by omega, by go_num, Hnext.out, Hkn.out⟩
      case measure => simp [intOf]; omega
    · obtain rfl : j = 3 := by omega
      have Hb := Lib.hid hb; clear hb; have Hk := Lib.hid hk; clear hk
      go_wp2
      go_ret
      exact ⟨rfl, ⟨by simpa using Hb.out⟩, Hk.out⟩
end Go.Proofs.YthokcmbgamanbaaDoor
