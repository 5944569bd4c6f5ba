/- slices.Insert at events. -/
import Derived.Test.YtelhlbplbkglkaaCopy
namespace Go.Proofs.Ytelhlbplbkglkaa
open Go.RowKit
theorem info_tEvent : (Try.prog.info? 34).map (fun i => (i.zero, i.size, i.bytes)) = some (some (.agg #[.int .i64 0, .int .i64 0, .int .i64 0, .int .i64 0, .int .i64 0]), 5, 40) := by kernel_rfl
set_option maxRecDepth 100000 in
set_option maxHeartbeats 400000 in
theorem insEv_end (w : World) (v : Value) (n : Nat) (xs : List Value) (hown : w.ownsRow 0 34 5 v n xs) (news : Array Value) (hn : news.size = 5) (h1n : ∀ u ∈ news.toList, u.oneCell' = true) (hnb : n ≤ 1000000000000) :
    Calls Try.prog 37 #[v, .int .i64 n, .slice (some ⟨w.heap.size, 0, none⟩) 1 1] (w.alloc (.cells news 34)) fun e w' => ∃ v', e = .returned v' ∧ w'.ownsRow 0 34 5 v' (n + 1) (xs ++ news.toList) ∧ Keeps (fun k => v.ownBlock = some k) w w' ∧
      (v'.ownBlock = v.ownBlock ∨ ∃ g, v'.ownBlock = some g ∧ w.heap.size ≤ g) := by
  obtain ⟨i0, hi, hz0, hz1, hz2⟩ := info_parts info_tEvent
  rcases hown.2 with ⟨rfl, rfl⟩ | ⟨g, cap, cur, rfl, _, hgc, hncap, hcm, _, _⟩
  · have Hown := Lib.hid hown; clear hown; have H1n := Lib.hid h1n; clear h1n; have Hn := Lib.hid hn; clear hn
    go_enter Try.func37, Try.ntmps37
    go_wp2_with (at_builtin; refine wpList_append_row rfl (.tmp 23) (.tmp 24) 35 rfl 0 34 i0 _ 5 40 Try.underlying35 hi hz0 hz1 hz2 rfl (by decide) _ 0 xs rfl (Hown.out.alloc _) _ 1 news.toList rfl (Reads.lit _ _ _ _ _ (by simpa using Hn.out)) H1n.out (by unfold maxLen; omega) (by omega) (by omega) ?_)
    intro v' w1 hown1 hk1 hf1
    have hend := ins_post hown1 hk1 hf1
    have Hend := Lib.hid hend; clear hend
    clear hown1 hk1 hf1
    go_wp2
    go_ret
    exact ⟨_, rfl, Hend.out⟩
  · have hgl := lt_of_block hgc
    clear hgc
    have Hown := Lib.hid hown; clear hown; have H1n := Lib.hid h1n; clear h1n; have Hn := Lib.hid hn; clear hn
    by_cases hc : cap = n
    · subst hc
      go_enter Try.func37, Try.ntmps37
      go_wp2_with (at_builtin; refine wpList_append_row rfl (.tmp 23) (.tmp 24) 35 rfl 0 34 i0 _ 5 40 Try.underlying35 hi hz0 hz1 hz2 rfl (by decide) _ _ xs rfl (Hown.out.alloc _) _ 1 news.toList rfl (Reads.lit _ _ _ _ _ (by simpa using Hn.out)) H1n.out (by unfold maxLen; omega) (by omega) (by omega) ?_)
      intro v' w1 hown1 hk1 hf1
      have hend := ins_post hown1 hk1 hf1
      have Hend := Lib.hid hend; clear hend
      clear hown1 hk1 hf1
      go_wp2
      go_ret
      exact ⟨_, rfl, Hend.out⟩
    · go_enter Try.func37, Try.ntmps37
      go_wp2_with (at_builtin; refine wpList_append_row rfl (.tmp 23) (.tmp 24) 35 rfl 0 34 i0 _ 5 40 Try.underlying35 hi hz0 hz1 hz2 rfl (by decide) _ _ xs rfl (Hown.out.alloc _) _ 1 news.toList rfl (Reads.lit _ _ _ _ _ (by simpa using Hn.out)) H1n.out (by unfold maxLen; omega) (by omega) (by omega) ?_)
      intro v' w1 hown1 hk1 hf1
      have hend := ins_post hown1 hk1 hf1
      have Hend := Lib.hid hend; clear hend
      clear hown1 hk1 hf1
      go_wp2
      go_ret
      exact ⟨_, rfl, Hend.out⟩
set_option maxRecDepth 100000 in
set_option maxHeartbeats 800000 in
theorem insEv_grow (w : World) (g i n : Nat) (xs : List Value) (hown : w.ownsRow 0 34 5 (.slice (some ⟨g, 0, none⟩) n n) n xs) (hin : i < n) (news : Array Value) (hn : news.size = 5) (h1n : ∀ u ∈ news.toList, u.oneCell' = true) (h1x : ∀ u ∈ xs, u.oneCell' = true) (hnb : n ≤ 1000000000000) :
    Calls Try.prog 37 #[.slice (some ⟨g, 0, none⟩) n n, .int .i64 i, .slice (some ⟨w.heap.size, 0, none⟩) 1 1] (w.alloc (.cells news 34)) fun e w' => ∃ v', e = .returned v' ∧ w'.ownsRow 0 34 5 v' (n + 1) (xs.take (i * 5) ++ news.toList ++ xs.drop (i * 5)) ∧
      Keeps (fun _ => False) w w' ∧ ∃ g, v'.ownBlock = some g ∧ w.heap.size ≤ g := by
  obtain ⟨i0, hi, hz0, hz1, hz2⟩ := info_parts info_tEvent
  have hsz : (Try.prog.info? 34).map (·.size) = some 5 := by rw [hi]; simp [hz1]
  have hgl := (hown.lt g rfl).2
  have hxl : xs.length = n * 5 := hown.1
  have hcells := hown.cells (g := g) rfl
  obtain ⟨X1, hX1⟩ : ∃ X1, X1 = xs.take (i * 5) := ⟨_, rfl⟩
  obtain ⟨X2, hX2⟩ : ∃ X2, X2 = xs.drop (i * 5) := ⟨_, rfl⟩
  have l1 : X1.length = i * 5 := by rw [hX1]; simp; omega
  have l2 : X2.length = (n - i) * 5 := by rw [hX2]; simp [hxl]; omega
  have c1 : ∀ j u, X1[j]? = some u → w.cell? ((⟨g, 0, none⟩ : Addr).add j) = some u := fun j u hj => hcells j u (by
    rw [hX1, List.getElem?_take] at hj; split at hj; · exact hj
    · simp at hj)
  have c2 : ∀ j u, X2[j]? = some u → w.cell? ⟨g, i * 5 + j, none⟩ = some u := fun j u hj => by
    have := hcells (i * 5 + j) u (by rw [hX2, List.getElem?_drop] at hj; exact hj)
    rwa [add_mk, Nat.zero_add] at this
  have o1 : ∀ u ∈ X1, u.oneCell' = true := fun u hu => h1x u (by rw [hX1] at hu; exact List.mem_of_mem_take hu)
  have o2 : ∀ u ∈ X2, u.oneCell' = true := fun u hu => h1x u (by rw [hX2] at hu; exact List.mem_of_mem_drop hu)
  rw [← hX1, ← hX2]
  have wz : ∀ (W : World), Keeps (fun _ => False) w W → ∀ j u, X1[j]? = some u → W.cell? ((⟨g, 0, none⟩ : Addr).add j) = some u := fun W hW j u hj => by
    rw [hW.cell (by rw [add_block]; exact hgl) (by simp)]; exact c1 j u hj
  obtain ⟨k, hk⟩ : ∃ k : Nat, k = n + 1 - i := ⟨_, rfl⟩
  have hk1 : (n : Int) + 1 - i = k := by omega
  have hne1 : ¬ i = n := by omega
  have hne2 : ¬ n = i := by omega
  have Hown := Lib.hid hown; clear hown; have H1n := Lib.hid h1n; clear h1n; have H1x := Lib.hid h1x; clear h1x; have Hn := Lib.hid hn; clear hn; have Hcells := Lib.hid hcells; clear hcells; have HX1 := Lib.hid hX1; clear hX1; have HX2 := Lib.hid hX2; clear hX2; have L1 := Lib.hid l1; clear l1; have L2 := Lib.hid l2; clear l2; have C1 := Lib.hid c1; clear c1; have C2 := Lib.hid c2; clear c2; have O1 := Lib.hid o1; clear o1; have O2 := Lib.hid o2; clear o2; have Wz := Lib.hid wz; clear wz; have Hk := Lib.hid hk; clear hk; have Hxl := Lib.hid hxl; clear hxl
  go_enter Try.func37, Try.ntmps37
  have hk2 : 2 ≤ k ∧ i + k = n + 1 ∧ k ≤ 1000000000001 := by have := Hk.out; omega
  obtain ⟨k2, k3, k4⟩ := hk2
  have K3 := Lib.hid k3; clear k3
  go_wp2_with (first
    | (at_builtin; refine wpList_append_growz rfl (.tmp 34) (.tmp 39) 35 3 rfl 34 i0 _ 5 40 .i64 Try.underlying35 Try.underlying3 hi hz0 hz1 hz2 rfl (by decide) ⟨g, 0, none⟩ i n X1 k rfl rfl L1.out (Wz.out _ (Keeps.alloc _ _)) (by omega) (by have := K3.out; omega) (by have := K3.out; omega) (by decide) ?_; intro G Z w1 hG hGm hZ hrow hkp; have hbox := box_old (heap_alloc_new w (.cells news 34)) hkp (by simp); have Hbox := Lib.hid hbox; have Hrow := Lib.hid hrow; have Hkp := Lib.hid hkp; have HZ := Lib.hid hZ; have hGi : ¬ G = i := (by omega); have hGi1 : ¬ G = i + 1 := (by omega); clear hrow hkp hZ hbox)
    | (with_reducible refine wpList_copy_rowk rfl (.tmp 43) (.tmp 44) 35 35 rfl 34 5 Try.underlying35 hsz (w.heap.size + 1) (i * 5) k (G - i) ⟨w.heap.size, 0, none⟩ 1 1 rfl rfl (X1 ++ Z) 34 (by simpa using Hrow.out) news.toList 1 (Nat.min_eq_left (by omega)) (by rw [Array.length_toList, Hn.out]) (fun j u hj => by rw [add_mk, Nat.zero_add, cell_of_cells Hbox.out]; simpa using hj) (by simp only [List.length_append, Array.length_toList, L1.out, HZ.out, Hn.out]; omega) H1n.out ?_; intro w2 hrow2 hkp2; have Hrow2 := Lib.hid hrow2; have Hkp2 := Lib.hid hkp2; clear hrow2 hkp2))
  go_frame
  have hw1 : IntKind.i64.wrap ((i : Int) + 1) = (i : Int) + 1 := IntWalk.i64_in _ (by omega)
  have hw2 : (0 : Int) ≤ (i : Int) + 1 := by omega
  have hw3 : ((i : Int) + 1).toNat = i + 1 := by omega
  have hw4 : (i : Int) + 1 ≤ (i : Int) + k := by omega
  have hw5 : (i : Int) ≤ n := by omega
  have hkk : k - 1 = n - i := by have := K3.out; omega
  have Hkk := Lib.hid hkk
  clear hkk
  have hk0 : Keeps (fun k => w.heap.size ≤ k) w w2 := ((Keeps.alloc _ _).trans (Hkp.out.mono (by simp))).trans (Hkp2.out.mono fun k _ h => by subst h; left; simp)
  have hs2 : ∀ j u, X2[j]? = some u → w2.drew.cell? ((⟨g, i * 5, none⟩ : Addr).add j) = some u := fun j u hj => by
    rw [add_mk]
    exact (hk0.cell (p := ⟨g, i * 5 + j, none⟩) hgl (by simpa using hgl)).trans (C2.out j u hj)
  have hf2 : (i + 1) * 5 + X2.length ≤ (laid (X1 ++ Z) (i * 5) news.toList).length := by
    rw [length_laid _ _ _ (by simp only [List.length_append, Array.length_toList, L1.out, HZ.out, Hn.out]; omega)]
    have := K3.out
    simp only [List.length_append, L1.out, HZ.out, L2.out]; omega
  have hm2 : Nat.min (n - i) (i + k - (i + 1)) = n - i := Nat.min_eq_left (by have := K3.out; omega)
  have hfin : ∀ w3 : World, w3.heap[w.heap.size + 1]? = some (.cells (laid (laid (X1 ++ Z) (i * 5) news.toList) ((i + 1) * 5) X2).toArray 34 (0, 0)) → Keeps (fun k => k = w.heap.size + 1) w2.drew w3 →
      w3.ownsRow 0 34 5 (.slice (some ⟨w.heap.size + 1, 0, none⟩) (n + 1) G) (n + 1) (X1 ++ news.toList ++ X2) ∧ Keeps (fun _ => False) w w3 := fun w3 hr3 hk3 => by
    have hz2 : 5 + X2.length ≤ Z.length := by rw [L2.out, HZ.out]; have := K3.out; omega
    refine ⟨⟨?_, .inr ⟨w.heap.size + 1, G, _, rfl, Nat.zero_le _, hr3, by have := K3.out; omega, hGm, ?_, ?_⟩⟩, (hk0.trans ((Keeps.drew _).trans (hk3.mono fun k _ h => by subst h; left; left; omega))).mono ?_⟩
    · simp only [List.length_append, Array.length_toList, L1.out, L2.out, Hn.out]; omega
    · rw [List.size_toArray, length_laid _ _ _ hf2, length_laid _ _ _ (by simp only [List.length_append, Array.length_toList, L1.out, HZ.out, Hn.out]; omega)]
      simp only [List.length_append, L1.out, HZ.out]; have := K3.out; omega
    · have := ins_grow (X1 := X1) (X2 := X2) (Z := Z) (N := news.toList) (a := i * 5) (b := (n - i) * 5) (s := 5) L1.out L2.out (by simpa using Hn.out) (by rw [← L2.out]; exact hz2) (X1 ++ Z) _ rfl rfl
      simp only [laid]
      rw [show (n + 1) * 5 = i * 5 + 5 + (n - i) * 5 by omega, show (i + 1) * 5 = i * 5 + 5 by omega]
      exact this
    · intro k hk h; omega
  have Hk0 := Lib.hid hk0; clear hk0; have Hs2 := Lib.hid hs2; clear hs2; have Hf2 := Lib.hid hf2; clear hf2; have Hm2 := Lib.hid hm2; clear hm2; have Hfin := Lib.hid hfin; clear hfin
  go_region_law (refine step_copy_rowk rfl (.tmp 50) (.tmp 53) 35 35 rfl 34 5 Try.underlying35 hsz (w.heap.size + 1) ((i + 1) * 5) (i + k - (i + 1)) (G - (i + 1)) ⟨g, i * 5, none⟩ (n - i) (n - i) (by simp [Act.eval, Act.put]) (by simp [Act.eval, Act.put]) _ 34 Hrow2.out X2 (n - i) Hm2.out L2.out Hs2.out Hf2.out O2.out ?_; intro w3 hr3 hk3; have Hend := Lib.hid (Hfin.out w3 hr3 hk3); clear hr3 hk3)
  go_wp2
  go_ret
  exact ⟨_, rfl, by show World.ownsRow _ _ _ _ (Value.slice _ (i + k) G) _ _; rw [K3.out]; exact Hend.out.1, Hend.out.2, w.heap.size + 1, rfl, by omega⟩
set_option maxRecDepth 100000 in
set_option maxHeartbeats 800000 in
theorem insEv_room (w : World) (g i n cap : Nat) (xs : List Value) (hown : w.ownsRow 0 34 5 (.slice (some ⟨g, 0, none⟩) n cap) n xs) (hin : i < n) (hroom : n + 1 ≤ cap) (news : Array Value) (hn : news.size = 5) (h1n : ∀ u ∈ news.toList, u.oneCell' = true) (h1x : ∀ u ∈ xs, u.oneCell' = true) (hnb : n ≤ 1000000000000) :
    Calls Try.prog 37 #[.slice (some ⟨g, 0, none⟩) n cap, .int .i64 i, .slice (some ⟨w.heap.size, 0, none⟩) 1 1] (w.alloc (.cells news 34)) fun e w' => e = .returned (.slice (some ⟨g, 0, none⟩) (n + 1) cap) ∧ w'.ownsRow 0 34 5 (.slice (some ⟨g, 0, none⟩) (n + 1) cap) (n + 1) (xs.take (i * 5) ++ news.toList ++ xs.drop (i * 5)) ∧
      Keeps (fun k => k = g) w w' := by
  obtain ⟨i0, hi, hz0, hz1, hz2⟩ := info_parts info_tEvent
  have hsz : (Try.prog.info? 34).map (·.size) = some 5 := by rw [hi]; simp [hz1]
  have hgl := (hown.lt g rfl).2
  obtain ⟨cur, hgc, hcm, hcs, htk⟩ : ∃ cur : List Value, w.heap[g]? = some (.cells cur.toArray 34 (0, 0)) ∧ cap ≤ maxLen ∧ cur.length = cap * 5 ∧ cur.take (n * 5) = xs := by
    rcases hown.2 with ⟨h, _⟩ | ⟨g', cap', cur, h, _, hh, _, h1, h2, h3⟩
    · simp at h
    · simp only [Value.slice.injEq, Option.some.injEq, Addr.mk.injEq, and_true, true_and] at h
      obtain ⟨rfl, rfl⟩ := h
      exact ⟨cur.toList, by simpa using hh, h1, by simpa using h2, h3⟩
  have hxl : xs.length = n * 5 := hown.1
  obtain ⟨X1, hX1⟩ : ∃ X1, X1 = xs.take (i * 5) := ⟨_, rfl⟩
  obtain ⟨X2, hX2⟩ : ∃ X2, X2 = xs.drop (i * 5) := ⟨_, rfl⟩
  obtain ⟨Z, hZ⟩ : ∃ Z, Z = cur.drop (n * 5) := ⟨_, rfl⟩
  have l1 : X1.length = i * 5 := by rw [hX1]; simp; omega
  have l2 : X2.length = (n - i) * 5 := by rw [hX2]; simp [hxl]; omega
  have lz : 5 ≤ Z.length := by rw [hZ]; simp; omega
  have hcur : cur = X1 ++ (X2 ++ Z) := by
    rw [hX1, hX2, hZ, ← List.append_assoc, List.take_append_drop, ← htk, List.take_append_drop]
  have o2 : ∀ u ∈ X2, u.oneCell' = true := fun u hu => h1x u (by rw [hX2] at hu; exact List.mem_of_mem_drop hu)
  have c2 : ∀ j u, X2[j]? = some u → w.cell? ⟨g, i * 5 + j, none⟩ = some u := fun j u hj => by
    rw [cell_of_cells hgc, List.getElem?_toArray, hcur, List.getElem?_append_right (by omega), l1, show i * 5 + j - i * 5 = j by omega, List.getElem?_append_left (lt_of_get hj)]
    exact hj
  rw [← hX1, ← hX2]
  have hbox : (w.alloc (.cells news 34)).heap[w.heap.size]? = some (.cells news 34 (0, 0)) := heap_alloc_new w _
  have hgc1 : (w.alloc (.cells news 34)).heap[g]? = some (.cells cur.toArray 34 (0, 0)) := box_alloc hgc _
  have hov : ∀ lb cb, (callFunc 57 #[.slice (some ⟨w.heap.size, 0, none⟩) 1 1, .slice (some ⟨g, (i + 1) * 5, none⟩) lb cb]).run Try.prog (w.alloc (.cells news 34)) = .ok (.value (.bool false)) (w.alloc (.cells news 34)) := fun lb cb => by
    rw [run_callFunc_extern Try.func57 (by kernel_rfl) (by kernel_rfl) (by kernel_rfl) (e := Extern.SlicesOverlaps.overlaps #[35, 35] #[4]) (by kernel_rfl),
      Lib.run_overlaps_apart (w.alloc (.cells news 34)) 35 4 34 Try.underlying35 5 (fun w => by kernel_rfl) ⟨w.heap.size, 0, none⟩ ⟨g, (i + 1) * 5, none⟩ 1 1 lb cb (by show w.heap.size ≠ g; omega) 34 34 5 (cap * 5)
        (by unfold World.shape?; rw [hbox]; simp [hn]) (by unfold World.shape?; rw [hgc1]; simp [hcs]) (by omega) (by unfold World.frozen?; rw [hbox]; simp) (by unfold World.frozen?; rw [hbox]; simp)]
    rfl
  have hne1 : ¬ i = n := by omega
  have hne2 : ¬ n = i := by omega
  have hne3 : ¬ cap = i := by omega
  have hne4 : ¬ cap = i + 1 := by omega
  have hrm : (n : Int) + 1 ≤ cap := by omega
  unfold maxLen at hcm
  have Hown := Lib.hid hown; clear hown; have H1n := Lib.hid h1n; clear h1n; have H1x := Lib.hid h1x; clear h1x; have Hn := Lib.hid hn; clear hn; have HX1 := Lib.hid hX1; clear hX1; have HX2 := Lib.hid hX2; clear hX2; have HZ := Lib.hid hZ; clear hZ; have L1 := Lib.hid l1; clear l1; have L2 := Lib.hid l2; clear l2; have Lz := Lib.hid lz; clear lz; have O2 := Lib.hid o2; clear o2; have C2 := Lib.hid c2; clear c2; have Hcur := Lib.hid hcur; clear hcur; have Htk := Lib.hid htk; clear htk; have Hxl := Lib.hid hxl; clear hxl; have Hcs := Lib.hid hcs; clear hcs; have Hbox := Lib.hid hbox; clear hbox; have Hgc := Lib.hid hgc; clear hgc; have Hgc1 := Lib.hid hgc1; clear hgc1
  go_enter Try.func37, Try.ntmps37
  go_wp2_with (simp only [hov])
  have hw1 : IntKind.i64.wrap ((i : Int) + 1) = (i : Int) + 1 := IntWalk.i64_in _ (by omega)
  have hw2 : (0 : Int) ≤ (i : Int) + 1 := by omega
  have hw3 : ((i : Int) + 1).toNat = i + 1 := by omega
  have hw4 : (i : Int) + 1 ≤ (n : Int) + 1 := by omega
  have hw5 : (i : Int) ≤ (n : Int) + 1 := by omega
  have lcur : cur.length = i * 5 + ((n - i) * 5 + Z.length) := by rw [Hcur.out]; simp only [List.length_append, L1.out, L2.out]
  have hs2 : ∀ j u, X2[j]? = some u → (w.alloc (.cells news 34)).drew.cell? ((⟨g, i * 5, none⟩ : Addr).add j) = some u := fun j u hj => by
    rw [add_mk]
    exact ((Keeps.alloc (S := fun _ => False) w (.cells news 34)).cell (p := ⟨g, i * 5 + j, none⟩) hgl (by simp)).trans (C2.out j u hj)
  have hf2 : (i + 1) * 5 + X2.length ≤ cur.length := by rw [lcur, L2.out]; have := Lz.out; omega
  have hm2 : Nat.min (n + 1 - i) (n + 1 - (i + 1)) = n - i := (Nat.min_eq_right (by omega)).trans (by omega)
  have hf3 : i * 5 + news.toList.length ≤ (laid cur ((i + 1) * 5) X2).length := by
    rw [length_laid _ _ _ hf2, lcur, Array.length_toList, Hn.out]; have := Lz.out; omega
  have hfin : ∀ w2 w3 : World, Keeps (fun k => k = g) (w.alloc (.cells news 34)).drew w2 → w3.heap[g]? = some (.cells (laid (laid cur ((i + 1) * 5) X2) (i * 5) news.toList).toArray 34 (0, 0)) → Keeps (fun k => k = g) w2 w3 →
      w3.ownsRow 0 34 5 (.slice (some ⟨g, 0, none⟩) (n + 1) cap) (n + 1) (X1 ++ news.toList ++ X2) ∧ Keeps (fun k => k = g) w w3 := fun w2 w3 hk2 hr3 hk3 => by
    refine ⟨⟨?_, .inr ⟨g, cap, _, rfl, Nat.zero_le _, hr3, hroom, by unfold maxLen; exact hcm, ?_, ?_⟩⟩, (((Keeps.alloc _ _).trans (Keeps.drew _)).trans (hk2.mono fun _ _ h => .inl h)).trans (hk3.mono fun _ _ h => .inl h)⟩
    · simp only [List.length_append, Array.length_toList, L1.out, L2.out, Hn.out]; omega
    · rw [List.size_toArray, length_laid _ _ _ hf3, length_laid _ _ _ hf2]; exact Hcs.out
    · have := ins_room (X1 := X1) (X2 := X2) (Z := Z) (N := news.toList) (a := i * 5) (b := (n - i) * 5) (s := 5) L1.out L2.out (by simpa using Hn.out) Lz.out cur _ Hcur.out rfl
      simp only [laid]
      rw [show (n + 1) * 5 = i * 5 + 5 + (n - i) * 5 by omega, show (i + 1) * 5 = i * 5 + 5 by omega]
      exact this
  have hbx : ∀ w2 : World, Keeps (fun k => k = g) (w.alloc (.cells news 34)).drew w2 → w2.heap[w.heap.size]? = some (.cells news 34 (0, 0)) := fun w2 hk2 => box_old (w := (w.alloc (.cells news 34)).drew) Hbox.out hk2 (by omega)
  have Hs2 := Lib.hid hs2; clear hs2; have Hf2 := Lib.hid hf2; clear hf2; have Hm2 := Lib.hid hm2; clear hm2; have Hf3 := Lib.hid hf3; clear hf3; have Hfin := Lib.hid hfin; clear hfin; have Hbx := Lib.hid hbx; clear hbx; have Lcur := Lib.hid lcur; clear lcur
  clear hov
  go_region_law (refine step_copy_rowk rfl (.tmp 73) (.tmp 76) 35 35 rfl 34 5 Try.underlying35 hsz g ((i + 1) * 5) (n + 1 - (i + 1)) (cap - (i + 1)) ⟨g, i * 5, none⟩ (n + 1 - i) (cap - i) (by simp [Act.eval, Act.put]) (by simp [Act.eval, Act.put]) cur 34 Hgc1.out X2 (n - i) Hm2.out L2.out Hs2.out Hf2.out O2.out ?_; intro w2 hr2 hk2; have Hr2 := Lib.hid hr2; have Hk2 := Lib.hid hk2; have Hb2 := Lib.hid (Hbx.out w2 hk2); clear hr2 hk2)
  go_wp2_with (with_reducible refine wpList_copy_rowk rfl (.tmp 80) (.tmp 81) 35 35 rfl 34 5 Try.underlying35 hsz g (i * 5) (n + 1 - i) (cap - i) ⟨w.heap.size, 0, none⟩ 1 1 rfl rfl _ 34 Hr2.out news.toList 1 (Nat.min_eq_left (by omega)) (by rw [Array.length_toList, Hn.out]) (fun j u hj => by rw [add_mk, Nat.zero_add, cell_of_cells Hb2.out]; simpa using hj) Hf3.out H1n.out ?_; intro w3 hr3 hk3; have Hend := Lib.hid (Hfin.out w2 w3 Hk2.out hr3 hk3); clear hr3 hk3)
  go_wp2
  go_ret
  exact ⟨rfl, Hend.out⟩
theorem insEv_any (w : World) (v : Value) (i n : Nat) (xs : List Value) (hown : w.ownsRow 0 34 5 v n xs) (hin : i ≤ n) (news : Array Value) (hn : news.size = 5) (h1n : ∀ u ∈ news.toList, u.oneCell' = true) (h1x : ∀ u ∈ xs, u.oneCell' = true) (hnb : n ≤ 1000000000000) :
    Calls Try.prog 37 #[v, .int .i64 i, .slice (some ⟨w.heap.size, 0, none⟩) 1 1] (w.alloc (.cells news 34)) fun e w' => ∃ v', e = .returned v' ∧ w'.ownsRow 0 34 5 v' (n + 1) (xs.take (i * 5) ++ news.toList ++ xs.drop (i * 5)) ∧
      Keeps (fun k => v.ownBlock = some k) w w' ∧ (v'.ownBlock = v.ownBlock ∨ ∃ g, v'.ownBlock = some g ∧ w.heap.size ≤ g) := by
  have hxl := hown.1
  by_cases h : i = n
  · subst h
    rw [List.take_of_length_le (by omega), List.drop_of_length_le (by omega), List.append_nil]
    exact insEv_end w v i xs hown news hn h1n hnb
  · obtain ⟨g, cap, rfl, hg⟩ := owns_some hown (by omega)
    have hnc : n ≤ cap := by
      obtain ⟨ad, c, he, h, _⟩ := ownsRow_shape hown
      injection he with _ _ e; omega
    by_cases hr : n + 1 ≤ cap
    · refine (insEv_room w g i n cap xs hown (by omega) hr news hn h1n h1x hnb).mono ?_
      rintro e w' ⟨rfl, h1, h2⟩
      exact ⟨_, rfl, h1, h2.mono fun k _ hk => by subst hk; rfl, .inl rfl⟩
    · obtain rfl : n = cap := by omega
      refine (insEv_grow w g i n xs hown (by omega) news hn h1n h1x hnb).mono ?_
      rintro e w' ⟨v', rfl, h1, h2, h3⟩
      exact ⟨v', rfl, h1, h2.mono (by simp), .inr h3⟩
end Go.Proofs.Ytelhlbplbkglkaa
