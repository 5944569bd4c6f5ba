/- The walks of the script layer: the readers. -/
import Derived.Test.YthokcmbgamanbaaScrPlain
namespace Go.Proofs.Ythokcmbgamanbaa
open Go.RowKit
/-- The program's reader in memory: what is left of bytes from a place on; they lie ahead of block lo. -/
structure RdAt (lo : Nat) (w : World) (b : Nat) (B : List Int) (k : Nat) : Prop where
  ex : ∃ ad c, w.heap[b]? = some (.cells #[.slice ad (B.length - k) c] 73 (0, 0)) ∧ Reads w 1 (.slice ad (B.length - k) c) (B.length - k) ((B.drop k).flatMap u8c) ∧ (k < B.length → ∀ g, (Value.slice ad (B.length - k) c).ownBlock = some g → g < lo)
  lob : lo ≤ b
theorem RdAt.keeps {lo : Nat} {S : Nat → Prop} {w w' : World} {b : Nat} {B : List Int} {k : Nat} (h : RdAt lo w b B k) (hk : Keeps S w w') (hS : ∀ j, S j → lo ≤ j ∧ j ≠ b) : RdAt lo w' b B k := by
  obtain ⟨⟨ad, c, h1, h2, h3⟩, h4⟩ := h
  refine ⟨⟨ad, c, by rw [hk.block b (lt_of_block h1) (fun hs => (hS b hs).2 rfl)]; exact h1, ?_, h3⟩, h4⟩
  by_cases hkl : k < B.length
  · exact h2.keeps hk fun g hg hs => by have := h3 hkl g hg; have := (hS g hs).1; omega
  · obtain ⟨ad', c', he, a1, a2, a3, a4⟩ := h2
    refine ⟨ad', c', he, a1, a2, a3, fun j u hj => ?_⟩
    rw [List.drop_eq_nil_of_le (by omega)] at hj
    simp at hj
set_option maxRecDepth 100000 in
set_option maxHeartbeats 400000 in
theorem rdNum_any (lo b k : Nat) (B : List Int) (w : World) (h : RdAt lo w b B k) (hB : ByOk B) :
    Calls Try.prog 55 #[(.pointer (some ⟨b, 0, none⟩))] w fun e w' => e = .returned (.int .i64 (bt B k)) ∧ RdAt lo w' b B (k + 1) ∧ Keeps (fun j => j = b) w w' := by
  obtain ⟨⟨ad, c, hb, hr, hlo⟩, hlb⟩ := h
  have c0 := cell_of_cells hb 0
  have e0 := free_of_cells hb 0
  have hlen := hB.2
  by_cases hk : k < B.length
  · obtain ⟨n, hn⟩ : ∃ n, B.length - k = n := ⟨_, rfl⟩
    obtain ⟨z, hz⟩ := get_some hk
    have hz' : (B.drop k)[0]? = some z := by rw [List.getElem?_drop]; exact hz
    rw [hn] at hb hr hlo c0
    obtain ⟨g, o, c', he, hc⟩ := hr.elem u8c_length hz' (by decide)
    simp only [Value.slice.injEq, true_and] at he
    obtain ⟨rfl, rfl⟩ := he
    have x0 : w.cell? ⟨g, o, none⟩ = some (.int .u8 z) := by have := hc 0 (by decide); simpa [u8c] using this
    have hzb := hB.1 z (List.mem_of_getElem? hz)
    have hgb := hlo hk g rfl
    have hn0 : 0 < n := by omega
    have hn1 : (1 : Int) ≤ (n : Int) := by omega
    have hn2 : ((n : Int) == 0) = false := beq_eq_false_iff_ne.2 (by omega)
    have hnb : (n : Int) ≤ 1000000000000 := by omega
    have hcn : n ≤ c := by obtain ⟨_, _, he, h1, _⟩ := hr; simp only [Value.slice.injEq, true_and] at he; omega
    obtain ⟨z0, z1⟩ := hzb
    have hbt := bt_some hz
    have hsuf : Reads w 1 (.slice (some ⟨g, o + 1, none⟩) (n - 1) (c - 1)) (n - 1) ((B.drop (k + 1)).flatMap u8c) := by
      have := hr.sufL u8c_length 1 (by omega)
      rw [List.drop_drop] at this
      simpa using this
    have hm' : B.length - (k + 1) = n - 1 := by omega
    have hpost : ∀ ad', (Reads w 1 (.slice ad' (n - 1) (c - 1)) (n - 1) ((B.drop (k + 1)).flatMap u8c)) → (∀ g', (Value.slice ad' (n - 1) (c - 1)).ownBlock = some g' → g' < lo) →
        RdAt lo (w.setCell ⟨b, 0, none⟩ (.slice ad' (n - 1) (c - 1))) b B (k + 1) ∧ Keeps (fun j => j = b) w (w.setCell ⟨b, 0, none⟩ (.slice ad' (n - 1) (c - 1))) := fun ad' h1 h2 => by
      have hk1 : Keeps (fun j => j = b) w (w.setCell ⟨b, 0, none⟩ (.slice ad' (n - 1) (c - 1))) := Keeps.setCell _ _ _ rfl
      refine ⟨⟨⟨ad', c - 1, ?_, ?_, fun _ g' hg' => ?_⟩, hlb⟩, hk1⟩
      · rw [hm']; exact heap_setCell_same _ _ 0 _ _ _ hb
      · rw [hm']; exact h1.keeps hk1 fun g' hg' e => by have := h2 g' hg'; omega
      · rw [hm'] at hg'; exact h2 g' hg'
    by_cases hc1 : c = 1
    · subst hc1
      obtain rfl : n = 1 := by omega
      have hfin := hpost (some ⟨g, o, none⟩) (by rw [List.drop_eq_nil_of_le (by omega)]; exact Reads.none_of (by simp)) (fun g' hg' => by simp only [Value.ownBlock, Option.some.injEq] at hg'; omega)
      have Hb := Lib.hid hb; clear hb; have Hr := Lib.hid hr; clear hr; have Hlo := Lib.hid hlo; clear hlo; have Hz := Lib.hid hz; clear hz; have Hz' := Lib.hid hz'; clear hz'; have Hbt := Lib.hid hbt; clear hbt; have Hsuf := Lib.hid hsuf; clear hsuf; have Hn := Lib.hid hn; clear hn; have Hm' := Lib.hid hm'; clear hm'; have Hpost := Lib.hid hpost; clear hpost; have Hfin := Lib.hid hfin; clear hfin; have HB := Lib.hid hB; clear hB
      clear hc
      go_enter Try.func55, Try.ntmps55
      go_wp2
      go_ret
      exact ⟨by rw [Hbt.out]; rfl, Hfin.out⟩
    · have hfin := hpost (some ⟨g, o + 1, none⟩) hsuf (fun g' hg' => by simp only [Value.ownBlock, Option.some.injEq] at hg'; omega)
      have Hb := Lib.hid hb; clear hb; have Hr := Lib.hid hr; clear hr; have Hlo := Lib.hid hlo; clear hlo; have Hz := Lib.hid hz; clear hz; have Hz' := Lib.hid hz'; clear hz'; have Hbt := Lib.hid hbt; clear hbt; have Hsuf := Lib.hid hsuf; clear hsuf; have Hn := Lib.hid hn; clear hn; have Hm' := Lib.hid hm'; clear hm'; have Hpost := Lib.hid hpost; clear hpost; have Hfin := Lib.hid hfin; clear hfin; have HB := Lib.hid hB; clear hB
      clear hc
      go_enter Try.func55, Try.ntmps55
      go_wp2
      go_ret
      exact ⟨by rw [Hbt.out]; rfl, Hfin.out⟩
  · have hm : B.length - k = 0 := by omega
    have hbt := bt_none (B := B) (k := k) (by omega)
    have hfin : RdAt lo w b B (k + 1) := ⟨⟨ad, c, by rw [hm] at hb; rw [show B.length - (k + 1) = 0 by omega]; exact hb, by
      rw [show B.length - (k + 1) = 0 by omega, List.drop_eq_nil_of_le (by omega)]
      rw [hm, List.drop_eq_nil_of_le (by omega)] at hr
      exact hr, fun h => by omega⟩, hlb⟩
    rw [hm] at c0
    have Hb := Lib.hid hb; clear hb; have Hr := Lib.hid hr; clear hr; have Hlo := Lib.hid hlo; clear hlo; have Hbt := Lib.hid hbt; clear hbt; have Hm := Lib.hid hm; clear hm; have Hfin := Lib.hid hfin; clear hfin; have HB := Lib.hid hB; clear hB
    go_enter Try.func55, Try.ntmps55
    go_wp2
    go_ret
    exact ⟨by rw [Hbt.out]; rfl, Hfin.out, Keeps.refl _ _⟩
theorem rdNum_at {lo b k : Nat} {B : List Int} {w : World} (h : RdAt lo w b B k) (hB : ByOk B) {z : Int} (hz : bt B k = z) :
    Calls Try.prog 55 #[(.pointer (some ⟨b, 0, none⟩))] w fun e w' => e = .returned (.int .i64 z) ∧ RdAt lo w' b B (k + 1) ∧ Keeps (fun j => j = b) w w' := by
  subst hz; exact rdNum_any lo b k B w h hB
theorem bt_ex {B : List Int} (h : ByOk B) (k : Nat) : ∃ z, bt B k = z ∧ 0 ≤ z ∧ z ≤ 255 := ⟨_, rfl, bt_bd h k⟩
/-- The reference's reader in memory. -/
structure RRdAt (lo : Nat) (w : World) (b : Nat) (v : Value) (B : List Int) (k : Nat) : Prop where
  blk : w.heap[b]? = some (.cells #[v, .int .i64 (min k B.length : Nat)] 78 (0, 0))
  rd : Reads w 1 v B.length (B.flatMap u8c)
  ap : 0 < B.length → ∀ g, v.ownBlock = some g → g < lo
  lob : lo ≤ b
theorem RRdAt.keeps {lo : Nat} {S : Nat → Prop} {w w' : World} {b : Nat} {v : Value} {B : List Int} {k : Nat} (h : RRdAt lo w b v B k) (hk : Keeps S w w') (hS : ∀ j, S j → lo ≤ j ∧ j ≠ b) : RRdAt lo w' b v B k := by
  refine ⟨by rw [hk.block b (lt_of_block h.blk) (fun hs => (hS b hs).2 rfl)]; exact h.blk, ?_, h.ap, h.lob⟩
  by_cases hB : 0 < B.length
  · exact h.rd.keeps hk fun g hg hs => by have := h.ap hB g hg; have := (hS g hs).1; omega
  · obtain ⟨ad', c', he, a1, a2, a3, a4⟩ := h.rd
    refine ⟨ad', c', he, a1, a2, a3, fun j u hj => ?_⟩
    rw [List.eq_nil_of_length_eq_zero (by omega : B.length = 0)] at hj
    simp at hj
set_option maxRecDepth 100000 in
set_option maxHeartbeats 400000 in
theorem rNext_any (lo b k : Nat) (v : Value) (B : List Int) (w : World) (h : RRdAt lo w b v B k) (hB : ByOk B) :
    Calls Try.prog 31 #[(.pointer (some ⟨b, 0, none⟩))] w fun e w' => e = .returned (.int .i64 (bt B k)) ∧ RRdAt lo w' b v B (k + 1) ∧ Keeps (fun j => j = b) w w' := by
  have hb := h.blk
  have hlen := hB.2
  have hr := h.rd
  have hap := h.ap
  have hlob := h.lob
  have c0 := cell_of_cells hb 0
  have c1 := cell_of_cells hb 1
  have e1 := free_of_cells hb 1
  by_cases hk : k < B.length
  · obtain ⟨z, hz⟩ := get_some hk
    obtain ⟨g, o, c, rfl, hc⟩ := hr.elem u8c_length hz (by decide)
    have x0 : w.cell? ⟨g, o + k, none⟩ = some (.int .u8 z) := by have := hc 0 (by decide); simpa [u8c] using this
    obtain ⟨z0, z1⟩ := hB.1 z (List.mem_of_getElem? hz)
    have hbt := bt_some hz
    have hmin : min k B.length = k := by omega
    rw [hmin] at c1
    have hgb : ¬ g = b := by have := hap (by omega) g rfl; omega
    have hk1 : Keeps (fun j => j = b) w (w.setCell ⟨b, 1, none⟩ (.int .i64 ((k : Int) + 1))) := Keeps.setCell _ _ _ rfl
    have hfin : RRdAt lo (w.setCell ⟨b, 1, none⟩ (.int .i64 ((k : Int) + 1))) b (.slice (some ⟨g, o, none⟩) B.length c) B (k + 1) := by
      refine ⟨?_, hr.keeps hk1 (fun g' hg' e => by have := hap (by omega) g' hg'; omega), hap, hlob⟩
      have := heap_setCell_same _ _ 1 _ _ (.int .i64 ((k : Int) + 1)) hb
      rw [show min (k + 1) B.length = k + 1 by omega]
      simpa using this
    have hw1 : IntKind.i64.wrap ((k : Int) + 1 - 1) = (k : Int) := by rw [show (k : Int) + 1 - 1 = k by omega]; exact IntWalk.i64_in _ (by omega)
    clear hc
    have H := Lib.hid h; clear h; have Hb := Lib.hid hb; clear hb; have Hr := Lib.hid hr; clear hr; have Hap := Lib.hid hap; clear hap; have Hz := Lib.hid hz; clear hz; have Hbt := Lib.hid hbt; clear hbt; have Hmin := Lib.hid hmin; clear hmin; have Hk1 := Lib.hid hk1; clear hk1; have Hfin := Lib.hid hfin; clear hfin; have HB := Lib.hid hB; clear hB
    go_enter Try.func31, Try.ntmps31
    go_wp2
    go_quiet (fail)
    go_wp2
    go_quiet (fail)
    go_wp2
    go_ret
    exact ⟨by rw [Hbt.out]; rfl, Hfin.out.keeps (S := fun _ => False) (by first | exact Keeps.drewN _ _ | exact (Keeps.drewN _ _).trans (Keeps.drewN _ _)) (by simp), Keeps.trans (S := fun j => j = b) Hk1.out (by first | exact Keeps.drewN _ _ | exact (Keeps.drewN _ _).trans (Keeps.drewN _ _))⟩
  · have hbt := bt_none (B := B) (k := k) (by omega)
    have hmin : min k B.length = B.length := by omega
    rw [hmin] at c1
    have hfin : RRdAt lo w b v B (k + 1) := ⟨by rw [show min (k + 1) B.length = min k B.length by omega]; exact hb, hr, hap, hlob⟩
    obtain ⟨ad, c, rfl, _⟩ := hr
    have H := Lib.hid h; clear h; have Hb := Lib.hid hb; clear hb; have Hap := Lib.hid hap; clear hap; have Hbt := Lib.hid hbt; clear hbt; have Hmin := Lib.hid hmin; clear hmin; have Hfin := Lib.hid hfin; clear hfin; have HB := Lib.hid hB; clear hB
    go_enter Try.func31, Try.ntmps31
    go_wp2
    go_quiet (fail)
    go_wp2
    go_ret
    exact ⟨by rw [Hbt.out]; rfl, Hfin.out.keeps (S := fun _ => False) (Keeps.drewN _ _) (by simp), Keeps.drewN _ _⟩
theorem rNext_at {lo b k : Nat} {v : Value} {B : List Int} {w : World} (h : RRdAt lo w b v B k) (hB : ByOk B) {z : Int} (hz : bt B k = z) :
    Calls Try.prog 31 #[(.pointer (some ⟨b, 0, none⟩))] w fun e w' => e = .returned (.int .i64 z) ∧ RRdAt lo w' b v B (k + 1) ∧ Keeps (fun j => j = b) w w' := by
  subst hz; exact rNext_any lo b k v B w h hB
end Go.Proofs.Ythokcmbgamanbaa
