/- Bytes as a text. -/
import Derived.Test.YthokcmbgamanbaaDoorKit4
import Derived.Laws.BytesString
namespace Go.Proofs.YthokcmbgamanbaaDoor
open Go.RowKit
/-- Bytes as a text. -/
def strOf (L : List Int) : ByteArray := L.foldl (fun r n => r.push (UInt8.ofNat n.toNat)) ByteArray.empty
theorem flat_u8c (L : List Int) : L.flatMap u8c = L.map (Value.int .u8) := by
  induction L with
  | nil => rfl
  | cons a l ih => rw [List.flatMap_cons, ih]; rfl
theorem conv_bytes {w : World} {src dst e : TypeId} (hs : Tryd.prog.underlying src = some (.slice e)) (he : Tryd.prog.underlying e = some (.int .u8)) (hd : Tryd.prog.underlying dst = some .string) {ad : Option Addr} {cap : Nat} {L : List Int} (hr : Reads w 1 (.slice ad L.length cap) L.length (L.flatMap u8c)) :
    (convert src dst (.slice ad L.length cap)).run Tryd.prog w = .ok (.string (strOf L)) w := by
  rw [run_convert_bytes_string w src dst e ad L.length cap hs he hd]
  obtain ⟨ad', c', he', hm, hl, hnone, hnews⟩ := hr
  simp only [Value.slice.injEq, true_and] at he'
  obtain ⟨rfl, rfl⟩ := he'
  rcases ad with _ | ad
  · have := hnone rfl
    obtain rfl : L = [] := List.eq_nil_of_length_eq_zero (by omega)
    simp [Conv.bytesToString, strOf]
  · have hc : L.flatMap u8c = L.map (Value.int .u8) := flat_u8c L
    have h := run_loadCells_list (P := Tryd.prog) w ad (L.map (Value.int .u8)) (fun j v hj => by
      rw [← hc] at hj
      obtain ⟨g, o, ha, hh⟩ := hnews j v hj
      cases ha
      rw [add_mk]; exact hh)
    simp only [List.length_map] at h
    exact run_bytesToString w ad L.length cap L h
end Go.Proofs.YthokcmbgamanbaaDoor
